/- QNwb: FilC, FilD, FilE, FilF, FilG, FilH, FilI, FilJ, FilK, FilL, FilM, FilN. -/
import Derived.ChangeKeysEq
import Derived.Test.YtpmapedhigjalaaRwa
import Derived.Test.YtpmapedhigjalaaRwb
import Derived.Test.YtpmapedhigjalaaRwc
section
/- file: Next, Know, Anew, Cancel, Info. -/
namespace Go.Proofs.Ytpmapedhigjalaa
set_option maxRecDepth 100000
set_option maxHeartbeats 4000000
set_option linter.unusedVariables false
set_option linter.unusedSimpArgs false
open Go.Sx


/-- slices.Clone at one type -/
theorem cloneB_pre (E : Env) (v : Value) (m : Nat) (vs : List Value) (h : Sl E [] 1 v m vs) (h1 : vs.all (·.oneCell') = true) (hb : m * 1 ≤ 140737488355328) : Does Try.prog 90 #[v] E [] fun r H' => H' = [osl 5 1 r m vs] := by
  refine Does.go (args := [v]) _ _ Try.func90 rfl Try.ntmps90 rfl rfl ?_
  refine Body.seq ?_
  refine Body.region ?_
  refine Ops.u (Dtu.asg (lk rfl)) rfl ?_
  refine Ops.nil ?_
  refine Then.next ?_
  refine Body.seq ?_
  refine Body.seq ?_
  refine Body.region ?_
  refine Ops.u (Dtu.mv (lk rfl)) rfl ?_
  refine Ops.u (Dtu.nilS Try.underlying73 (Sl.up h) (lk rfl)) rfl ?_
  refine Ops.nil ?_
  refine Then.next ?_
  refine Body.cond (lk rfl) (fun c4 => ?_) (fun c4 => ?_)
  · refine Body.pure (h.nil0 c4) ?_
    rintro ⟨rfl, rfl⟩
    refine Body.seq ?_
    refine Body.region ?_
    refine Ops.u (Dtu.asg (lk rfl)) rfl ?_
    refine Ops.nil ?_
    refine Then.next ?_
    refine Body.ret ?_
    refine Then.ret ?_
    exact ⟨.inr rfl, _, fun w s => osl_nil (pk [] rfl w s), rfl⟩
  · refine Body.pure h.len ?_
    rintro ⟨hl, hm⟩
    refine Body.skip ?_
    refine Then.next ?_
    refine Body.seq ?_
    refine Body.region ?_
    refine Ops.s (Stp.buildSlice0 Try.underlying73 ty5 (fun b5 => ?_)) rfl
    refine Ops.u (Dtu.mv (lk rfl)) rfl ?_
    refine Ops.s (Stp.appendNew Try.underlying73 ty5 rfl (lk rfl) (lk rfl) (Sl.up h) (by first | rfl | exact all_map (fun _ => rfl) _ | exact all_flat (fun _ => rfl) _ | exact all_one (by assumption)) (by omega) (by omega) (fun v7 => ?_)) rfl
    refine Ops.u (Dtu.asg (lk rfl)) rfl ?_
    refine Ops.nil ?_
    refine Then.next ?_
    refine Body.ret ?_
    exact ⟨.inr rfl, _, pk [0] rfl, rfl⟩
theorem cloneB_ok (E : Env) (v : Value) (m : Nat) (vs : List Value) (h : Sl E [] 1 v m vs) (h1 : vs.all (·.oneCell') = true) (hb : m * 1 ≤ 140737488355328) : Does Try.prog 90 #[v] E [] fun r H' => H' = [osl 5 1 r m vs] ∧ IsSl r :=
  fun w s => (cloneB_pre E v m vs h h1 hb w s).mono fun _ w' ⟨v, H', e, q, s'⟩ => ⟨v, H', e, ⟨q, by subst q; exact (Sl.osl (i := 0) rfl).isSl w' s'⟩, s'⟩

def chunk (bs : List Int) (i : Nat) : List Int := (bs.drop (64 * i)).take (lenN bs.length i)
theorem chunk_len {bs : List Int} {i : Nat} (h : i < (bs.length + 63) / 64) : (chunk bs i).length = lenN bs.length i := by
  have := lenN_le h
  unfold chunk; rw [List.length_take, List.length_drop]; omega
theorem u8s_one (l : List Int) : (l.map (Value.int .u8)).all (·.oneCell') = true := by simp [Value.oneCell']
theorem Sl.chunk {E : Env} {v : Value} {bs : List Int} {i : Nat} (h : Sl E [] 1 v bs.length (bs.map (.int .u8))) (hi : i < (bs.length + 63) / 64) : Sl E [] 1 (subSl v 1 (i * 64) (i * 64 + lenN bs.length i) (i * 64 + lenN bs.length i)) (lenN bs.length i) ((chunk bs i).map (.int .u8)) := fun w s => by
  have hl := lenN_le hi
  have e : lenN bs.length i = i * 64 + lenN bs.length i - i * 64 := by omega
  have := subSl_slW (h w s) (lo := i * 64) (hi := i * 64 + lenN bs.length i) (mx := i * 64 + lenN bs.length i) (by omega) (by omega) (by omega) (Nat.le_trans (by omega) (h w s).cap.1)
  rw [← e] at this
  rw [Go.Proofs.Ytpmapedhigjalaa.chunk, List.map_take, List.map_drop, Nat.mul_comm 64]
  rwa [Nat.mul_one, Nat.mul_one] at this
theorem Does.shp {E : Env} {H : List HProp} {P : Program} {g : FuncId} {args : Array Value} {t : TypeId} {sz m : Nat} {vs : List Value} (h : Does P g args E H fun r H' => H' = [osl t sz r m vs] ∧ IsSl r) : Does P g args E H fun r H' => ∃ a c, r = .slice a m c ∧ H' = [osl t sz (.slice a m c) m vs] := fun w s =>
  (h w s).mono fun _ _ ⟨v, H', e, q, s'⟩ => by
    obtain ⟨rfl, _⟩ := q
    obtain ⟨a, c, rfl⟩ := Sl.shape (Sl.osl 0 rfl) _ s'
    exact ⟨_, _, e, ⟨a, c, rfl, rfl⟩, s'⟩
theorem cloneB2_ok (E : Env) (v : Value) (m : Nat) (vs : List Value) (h : Sl E [] 1 v m vs) (h1 : vs.all (·.oneCell') = true) (hb : m ≤ 140737488355328) : Does Try.prog 90 #[v] E [] fun r H' => ∃ a c, r = .slice a m c ∧ H' = [osl 5 1 (.slice a m c) m vs] := Does.shp (cloneB_ok E v m vs h h1 (by omega))
theorem sNext_y (E : Env) (b : Nat) (z : Snd) (ok : z.Ok) (a : Option Addr) (c : Nat) (hst : z.st = 0) : Does Try.prog 45 #[.pointer (some ⟨b, 0, none⟩)] E ([own b (.bool true :: .int .u64 z.id :: .string z.nm :: .int .i64 (z.bs.length : Nat) :: .int .u8 (z.sm 0) :: .int .u8 (z.sm 1) :: .int .u8 (z.sm 2) :: .int .u8 (z.sm 3) :: .int .u8 (z.sm 4) :: .int .u8 (z.sm 5) :: .int .u8 (z.sm 6) :: .int .u8 (z.sm 7) :: .int .u8 (z.sm 8) :: .int .u8 (z.sm 9) :: .int .u8 (z.sm 10) :: .int .u8 (z.sm 11) :: .int .u8 (z.sm 12) :: .int .u8 (z.sm 13) :: .int .u8 (z.sm 14) :: .int .u8 (z.sm 15) :: .int .u8 (z.sm 16) :: .int .u8 (z.sm 17) :: .int .u8 (z.sm 18) :: .int .u8 (z.sm 19) :: .int .u8 (z.sm 20) :: .int .u8 (z.sm 21) :: .int .u8 (z.sm 22) :: .int .u8 (z.sm 23) :: .int .u8 (z.sm 24) :: .int .u8 (z.sm 25) :: .int .u8 (z.sm 26) :: .int .u8 (z.sm 27) :: .int .u8 (z.sm 28) :: .int .u8 (z.sm 29) :: .int .u8 (z.sm 30) :: .int .u8 (z.sm 31) :: .slice a z.bs.length c :: .int .i64 z.n :: .int .u64 z.x :: .int .i64 z.pos :: .bool z.gone :: []) 104, osl 5 1 (.slice a z.bs.length c) z.bs.length (z.bs.map (.int .u8))]) fun r H' => ∃ a2 c2, r = .tuple #[.int .i64 z.nxt, .slice a2 (lenN z.bs.length z.nxt) c2, .bool true] ∧ H' = [own b (.bool true :: .int .u64 z.id :: .string z.nm :: .int .i64 (z.bs.length : Nat) :: .int .u8 (z.sm 0) :: .int .u8 (z.sm 1) :: .int .u8 (z.sm 2) :: .int .u8 (z.sm 3) :: .int .u8 (z.sm 4) :: .int .u8 (z.sm 5) :: .int .u8 (z.sm 6) :: .int .u8 (z.sm 7) :: .int .u8 (z.sm 8) :: .int .u8 (z.sm 9) :: .int .u8 (z.sm 10) :: .int .u8 (z.sm 11) :: .int .u8 (z.sm 12) :: .int .u8 (z.sm 13) :: .int .u8 (z.sm 14) :: .int .u8 (z.sm 15) :: .int .u8 (z.sm 16) :: .int .u8 (z.sm 17) :: .int .u8 (z.sm 18) :: .int .u8 (z.sm 19) :: .int .u8 (z.sm 20) :: .int .u8 (z.sm 21) :: .int .u8 (z.sm 22) :: .int .u8 (z.sm 23) :: .int .u8 (z.sm 24) :: .int .u8 (z.sm 25) :: .int .u8 (z.sm 26) :: .int .u8 (z.sm 27) :: .int .u8 (z.sm 28) :: .int .u8 (z.sm 29) :: .int .u8 (z.sm 30) :: .int .u8 (z.sm 31) :: .slice a z.bs.length c :: .int .i64 z.n :: .int .u64 z.x :: .int .i64 ((z.nxt + 1 : Nat) : Int) :: .bool z.gone :: []) 104, osl 5 1 (.slice a z.bs.length c) z.bs.length (z.bs.map (.int .u8)), osl 5 1 (.slice a2 (lenN z.bs.length z.nxt) c2) (lenN z.bs.length z.nxt) ((chunk z.bs z.nxt).map (.int .u8))] := by
  have hi : z.nxt < (z.bs.length + 63) / 64 := Snd.nxt_lt ok hst
  have hl := ok.len
  have hc := lenN_le hi
  refine Does.go _ _ Try.func45 rfl Try.ntmps45 rfl rfl ?_
  refine Body.seq ?_
  refine Body.region ?_
  refine Ops.u (Dtu.asg (lk rfl)) rfl ?_
  refine Ops.u (Dtu.asg (lk rfl)) rfl ?_
  refine Ops.u (Dtu.asg (lk rfl)) rfl ?_
  refine Ops.nil ?_
  refine Then.next ?_
  refine Body.seq ?_
  refine Body.region ?_
  refine Ops.u (Dtu.mv (lk rfl)) rfl ?_
  refine Ops.s (Stp.callOwn [0] rfl rfl Try.call92 (lks rfl) (fun E' le hat => snextY_b E' _ _ (by first | with_reducible assumption | omega | assumption) _ _ (by first | with_reducible assumption | omega | assumption)) ?_) rfl
  rintro _ _ ⟨rfl, rfl⟩
  refine Ops.u (Dtu.asg (lk rfl)) rfl ?_
  refine Ops.nil ?_
  refine Then.next ?_
  refine Body.seq ?_
  refine Body.seq ?_
  refine Body.region ?_
  refine Ops.u (Dtu.mv (lk rfl)) rfl ?_
  refine Ops.u (Dtu.lss (lk rfl) (lk rfl)) rfl ?_
  refine Ops.nil ?_
  refine Then.next ?_
  refine Body.condP (lk rfl) (fun hy => absurd hy (by first | omega | assumption | decide)) (fun _ => ?_)
  refine Body.skip ?_
  refine Then.next ?_
  refine Body.seq ?_
  refine Body.region ?_
  refine Ops.u (Dtu.mv (lk rfl)) rfl ?_
  refine Ops.u (Dtu.mv (lk rfl)) rfl ?_
  refine Ops.u (Dtu.add (lk rfl) (lk rfl) (w64 (by omega) (by omega))) rfl ?_
  refine Ops.u (Dtu.nilck (lk rfl)) rfl ?_
  refine Ops.u (Dtu.fld fa104_4 (lk rfl)) rfl ?_
  refine Ops.e (Stp.store 0 Try.sizeOf3 (lk rfl) (lk rfl) rfl rfl rfl rfl rfl rfl rfl ?_)
  refine Ops.nil ?_
  refine Then.next ?_
  refine Body.seq ?_
  refine Body.region ?_
  refine Ops.u (Dtu.mv (lk rfl)) rfl ?_
  refine Ops.u (Dtu.mul (lk rfl) (lk rfl) (w64 (by omega) (by omega))) rfl ?_
  refine Ops.u (Dtu.asg (lk rfl)) rfl ?_
  refine Ops.nil ?_
  refine Then.next ?_
  refine Body.seq ?_
  refine Body.region ?_
  refine Ops.u (Dtu.mv (lk rfl)) rfl ?_
  refine Ops.u (Dtu.mv (lk rfl)) rfl ?_
  refine Ops.u (Dtu.nilck (lk rfl)) rfl ?_
  refine Ops.u (Dtu.fld fa104_1 (lk rfl)) rfl ?_
  refine Ops.u (Dtu.fld fa82_2 (lk rfl)) rfl ?_
  refine Ops.d (Det.ld Try.isAgg3 (lk rfl) (Rd.ow 0 rfl rfl)) rfl ?_
  refine Ops.u (Dtu.mv (lk rfl)) rfl ?_
  refine Ops.s (Stp.call rfl Try.call63 (lks rfl) (fun E' le hat => slengthN_ok E' _ _ (by first | with_reducible assumption | omega | assumption) (by first | with_reducible assumption | omega | assumption)) ?_) rfl
  rintro _ _ ⟨rfl, rfl⟩
  refine Ops.u (Dtu.add (lk rfl) (lk rfl) (w64 (by omega) (by omega))) rfl ?_
  refine Ops.u (Dtu.asg (lk rfl)) rfl ?_
  refine Ops.nil ?_
  refine Then.next ?_
  refine Body.seq ?_
  refine Body.region ?_
  refine Ops.u (Dtu.mv (lk rfl)) rfl ?_
  refine Ops.u (Dtu.mv (lk rfl)) rfl ?_
  refine Ops.u (Dtu.nilck (lk rfl)) rfl ?_
  refine Ops.u (Dtu.fld fa104_2 (lk rfl)) rfl ?_
  refine Ops.d (Det.ld Try.isAgg73 (lk rfl) (Rd.ow 0 rfl rfl)) rfl ?_
  refine Ops.u (Dtu.mv (lk rfl)) rfl ?_
  refine Ops.u (Dtu.mv (lk rfl)) rfl ?_
  refine Ops.u (Dtu.mv (lk rfl)) rfl ?_
  refine Ops.u (Dtu.slLHM (z.nxt * 64) (z.nxt * 64 + lenN z.bs.length z.nxt) (z.nxt * 64 + lenN z.bs.length z.nxt) Try.underlying73 Try.sizeOf5 (Sl.osl 1 rfl) (lk rfl) (lk rfl) (lk rfl) (lk rfl) (by omega) (by omega) (by omega) (by omega) (by omega) (by omega)) rfl ?_
  refine Ops.s (Stp.call rfl Try.call90 (lks rfl) (fun E' le hat => cloneB2_ok E' _ _ ((chunk z.bs z.nxt).map (.int .u8)) (Sl.chunk (Sl.hatI hat 1 rfl) hi) (u8s_one _) (by omega)) ?_) rfl
  rintro _ _ ⟨ca37, cc37, rfl, rfl⟩
  refine Ops.u (Dtu.asg (lk rfl)) rfl ?_
  refine Ops.u (Dtu.asg (lk rfl)) rfl ?_
  refine Ops.u (Dtu.asg (lk rfl)) rfl ?_
  refine Ops.nil ?_
  refine Then.next ?_
  refine Body.ret ?_
  exact ⟨.inr rfl, _, pk [1, 1, 0] rfl, _, _, rfl, rfl⟩
theorem sNext_n (E : Env) (b : Nat) (z : Snd) (ok : z.Ok) (a : Option Addr) (c : Nat) (hst : ¬ z.st = 0) : Does Try.prog 45 #[.pointer (some ⟨b, 0, none⟩)] E ([own b (.bool true :: .int .u64 z.id :: .string z.nm :: .int .i64 (z.bs.length : Nat) :: .int .u8 (z.sm 0) :: .int .u8 (z.sm 1) :: .int .u8 (z.sm 2) :: .int .u8 (z.sm 3) :: .int .u8 (z.sm 4) :: .int .u8 (z.sm 5) :: .int .u8 (z.sm 6) :: .int .u8 (z.sm 7) :: .int .u8 (z.sm 8) :: .int .u8 (z.sm 9) :: .int .u8 (z.sm 10) :: .int .u8 (z.sm 11) :: .int .u8 (z.sm 12) :: .int .u8 (z.sm 13) :: .int .u8 (z.sm 14) :: .int .u8 (z.sm 15) :: .int .u8 (z.sm 16) :: .int .u8 (z.sm 17) :: .int .u8 (z.sm 18) :: .int .u8 (z.sm 19) :: .int .u8 (z.sm 20) :: .int .u8 (z.sm 21) :: .int .u8 (z.sm 22) :: .int .u8 (z.sm 23) :: .int .u8 (z.sm 24) :: .int .u8 (z.sm 25) :: .int .u8 (z.sm 26) :: .int .u8 (z.sm 27) :: .int .u8 (z.sm 28) :: .int .u8 (z.sm 29) :: .int .u8 (z.sm 30) :: .int .u8 (z.sm 31) :: .slice a z.bs.length c :: .int .i64 z.n :: .int .u64 z.x :: .int .i64 z.pos :: .bool z.gone :: []) 104]) fun r H' => r = .tuple #[.int .i64 0, .slice none 0 0, .bool false] ∧ H' = [own b (.bool true :: .int .u64 z.id :: .string z.nm :: .int .i64 (z.bs.length : Nat) :: .int .u8 (z.sm 0) :: .int .u8 (z.sm 1) :: .int .u8 (z.sm 2) :: .int .u8 (z.sm 3) :: .int .u8 (z.sm 4) :: .int .u8 (z.sm 5) :: .int .u8 (z.sm 6) :: .int .u8 (z.sm 7) :: .int .u8 (z.sm 8) :: .int .u8 (z.sm 9) :: .int .u8 (z.sm 10) :: .int .u8 (z.sm 11) :: .int .u8 (z.sm 12) :: .int .u8 (z.sm 13) :: .int .u8 (z.sm 14) :: .int .u8 (z.sm 15) :: .int .u8 (z.sm 16) :: .int .u8 (z.sm 17) :: .int .u8 (z.sm 18) :: .int .u8 (z.sm 19) :: .int .u8 (z.sm 20) :: .int .u8 (z.sm 21) :: .int .u8 (z.sm 22) :: .int .u8 (z.sm 23) :: .int .u8 (z.sm 24) :: .int .u8 (z.sm 25) :: .int .u8 (z.sm 26) :: .int .u8 (z.sm 27) :: .int .u8 (z.sm 28) :: .int .u8 (z.sm 29) :: .int .u8 (z.sm 30) :: .int .u8 (z.sm 31) :: .slice a z.bs.length c :: .int .i64 z.n :: .int .u64 z.x :: .int .i64 z.pos :: .bool z.gone :: []) 104] := by
  have h0 := Snd.next_no hst
  refine Does.go _ _ Try.func45 rfl Try.ntmps45 rfl rfl ?_
  refine Body.seq ?_
  refine Body.region ?_
  refine Ops.u (Dtu.asg (lk rfl)) rfl ?_
  refine Ops.u (Dtu.asg (lk rfl)) rfl ?_
  refine Ops.u (Dtu.asg (lk rfl)) rfl ?_
  refine Ops.nil ?_
  refine Then.next ?_
  refine Body.seq ?_
  refine Body.region ?_
  refine Ops.u (Dtu.mv (lk rfl)) rfl ?_
  refine Ops.s (Stp.callOwn [0] rfl rfl Try.call92 (lks rfl) (fun E' le hat => snext_b E' _ _ (by first | with_reducible assumption | omega | assumption) _ _) ?_) rfl
  rintro _ _ ⟨rfl, rfl⟩
  refine Ops.u (Dtu.asg (lk rfl)) rfl ?_
  refine Ops.nil ?_
  refine Then.next ?_
  refine Body.seq ?_
  refine Body.seq ?_
  refine Body.region ?_
  refine Ops.u (Dtu.mv (lk rfl)) rfl ?_
  refine Ops.u (Dtu.lss (lk rfl) (lk rfl)) rfl ?_
  refine Ops.nil ?_
  refine Then.next ?_
  refine Body.condP (lk rfl) (fun _ => ?_) (fun hn => absurd (by first | omega | assumption | decide) hn)
  refine Body.seq ?_
  refine Body.region ?_
  refine Ops.u (Dtu.asg (lk rfl)) rfl ?_
  refine Ops.u (Dtu.asg (lk rfl)) rfl ?_
  refine Ops.u (Dtu.asg (lk rfl)) rfl ?_
  refine Ops.nil ?_
  refine Then.next ?_
  refine Body.ret ?_
  refine Then.ret ?_
  exact ⟨.inr rfl, _, pk [0] rfl, rfl, rfl⟩
theorem Snd.Ok.or {z : Snd} (ok : z.Ok) {n x : Int} (hx : U64 x) (hr : bmR n x = true) (hn : n = z.n) : (⟨z.id, z.nm, z.bs, z.sm, z.x ||| x.toNat, z.pos, z.gone⟩ : Snd).Ok :=
  ⟨ok.len, Nat.or_lt_two_pow ok.x (by have := bmR_lt hr hx.1; rw [hn, Int.toNat_natCast] at this; exact this)⟩
theorem sknow_y (E : Env) (b : Nat) (z : Snd) (ok : z.Ok) (a : Option Addr) (c : Nat) (n x : Int) (hx : U64 x) (hr : bmR n x = true) (hn : n = z.n) (hg : z.gone = false) : Does Try.prog 46 #[.pointer (some ⟨b, 0, none⟩), .agg #[.int .i64 n, .int .u64 x]] E ([own b (.bool true :: .int .u64 z.id :: .string z.nm :: .int .i64 (z.bs.length : Nat) :: .int .u8 (z.sm 0) :: .int .u8 (z.sm 1) :: .int .u8 (z.sm 2) :: .int .u8 (z.sm 3) :: .int .u8 (z.sm 4) :: .int .u8 (z.sm 5) :: .int .u8 (z.sm 6) :: .int .u8 (z.sm 7) :: .int .u8 (z.sm 8) :: .int .u8 (z.sm 9) :: .int .u8 (z.sm 10) :: .int .u8 (z.sm 11) :: .int .u8 (z.sm 12) :: .int .u8 (z.sm 13) :: .int .u8 (z.sm 14) :: .int .u8 (z.sm 15) :: .int .u8 (z.sm 16) :: .int .u8 (z.sm 17) :: .int .u8 (z.sm 18) :: .int .u8 (z.sm 19) :: .int .u8 (z.sm 20) :: .int .u8 (z.sm 21) :: .int .u8 (z.sm 22) :: .int .u8 (z.sm 23) :: .int .u8 (z.sm 24) :: .int .u8 (z.sm 25) :: .int .u8 (z.sm 26) :: .int .u8 (z.sm 27) :: .int .u8 (z.sm 28) :: .int .u8 (z.sm 29) :: .int .u8 (z.sm 30) :: .int .u8 (z.sm 31) :: .slice a z.bs.length c :: .int .i64 z.n :: .int .u64 z.x :: .int .i64 z.pos :: .bool z.gone :: []) 104]) fun r H' => r = .int .i64 0 ∧ H' = [own b (.bool true :: .int .u64 z.id :: .string z.nm :: .int .i64 (z.bs.length : Nat) :: .int .u8 (z.sm 0) :: .int .u8 (z.sm 1) :: .int .u8 (z.sm 2) :: .int .u8 (z.sm 3) :: .int .u8 (z.sm 4) :: .int .u8 (z.sm 5) :: .int .u8 (z.sm 6) :: .int .u8 (z.sm 7) :: .int .u8 (z.sm 8) :: .int .u8 (z.sm 9) :: .int .u8 (z.sm 10) :: .int .u8 (z.sm 11) :: .int .u8 (z.sm 12) :: .int .u8 (z.sm 13) :: .int .u8 (z.sm 14) :: .int .u8 (z.sm 15) :: .int .u8 (z.sm 16) :: .int .u8 (z.sm 17) :: .int .u8 (z.sm 18) :: .int .u8 (z.sm 19) :: .int .u8 (z.sm 20) :: .int .u8 (z.sm 21) :: .int .u8 (z.sm 22) :: .int .u8 (z.sm 23) :: .int .u8 (z.sm 24) :: .int .u8 (z.sm 25) :: .int .u8 (z.sm 26) :: .int .u8 (z.sm 27) :: .int .u8 (z.sm 28) :: .int .u8 (z.sm 29) :: .int .u8 (z.sm 30) :: .int .u8 (z.sm 31) :: .slice a z.bs.length c :: .int .i64 z.n :: .int .u64 ((z.x ||| x.toNat : Nat) : Int) :: .int .i64 z.pos :: .bool z.gone :: []) 104] := by
  subst hn
  have ha : askF (bmR z.n x) z.n z.n z.gone = 0 := by rw [hr, hg]; simp [askF]
  have ho : orB z.x x = ((z.x ||| x.toNat : Nat) : Int) := by unfold orB; rw [Int.toNat_natCast]
  have hzr := ok.r
  have hzu := ok.u
  refine Does.go _ _ Try.func46 rfl Try.ntmps46 rfl rfl ?_
  refine Body.seq ?_
  refine Body.region ?_
  refine Ops.s (Stp.box (lk rfl) rfl (fun b3 => ?_)) rfl
  refine Ops.u (Dtu.asg (lk rfl)) rfl ?_
  refine Ops.nil ?_
  refine Then.next ?_
  refine Body.seq ?_
  refine Body.seq ?_
  refine Body.region ?_
  refine Ops.u (Dtu.mv (lk rfl)) rfl ?_
  refine Ops.d (Det.lda Try.isAgg86 Try.sizeOf86 (lk rfl) (Rds.ow (m := 2) 0 rfl rfl) rfl) rfl ?_
  refine Ops.s (Stp.callOwn [1] rfl rfl Try.call93 (lks rfl) (fun E' le hat => sask_b E' _ _ (by first | with_reducible assumption | omega | assumption) _ _ _ _ (by first | with_reducible assumption | omega | assumption)) ?_) rfl
  rintro _ _ ⟨rfl, rfl⟩
  refine Ops.u (Dtu.asg (lk rfl)) rfl ?_
  refine Ops.nil ?_
  refine Then.next ?_
  refine Body.seq ?_
  refine Body.region ?_
  refine Ops.u (Dtu.mv (lk rfl)) rfl ?_
  refine Ops.u (Dtu.neq (lk rfl) (lk rfl)) rfl ?_
  refine Ops.nil ?_
  refine Then.next ?_
  refine Body.condP (lk rfl) (fun hy => absurd hy (by first | omega | assumption | decide)) (fun _ => ?_)
  refine Body.skip ?_
  refine Then.next ?_
  refine Body.seq ?_
  refine Body.drawE [0, 0] mixed rfl ?_
  rintro E4' le4 ⟨hA4_0, hA4_1, -⟩
  refine AE.u 0 rfl (by decide +kernel) (Dtu.mv (lk rfl)) rfl ?_
  refine AE.u 1 rfl (by decide +kernel) (Dtu.nilck (lk rfl)) rfl ?_
  refine AE.u 2 rfl (by decide +kernel) (Dtu.fld fa104_3 (lk rfl)) rfl ?_
  refine AE.d 3 rfl (by decide +kernel) (Det.lda Try.isAgg86 Try.sizeOf86 (lk rfl) (Rds.at (m := 2) hA4_0 rfl) rfl) rfl ?_
  refine AE.d 4 rfl (by decide +kernel) (Det.lda Try.isAgg86 Try.sizeOf86 (lk rfl) (Rds.at (m := 2) hA4_1 rfl) rfl) rfl ?_
  refine AE.more [5, 9] (by decide +kernel) rfl ⟨?_, ?_, trivial⟩
  · refine AEI.s rfl (Stp.call rfl Try.call94 (lks rfl) (fun E' le hat => bor_ok E' _ _ _ (by first | with_reducible assumption | omega | assumption) (by first | with_reducible assumption | omega | assumption) (by first | with_reducible assumption | omega | assumption) (by first | with_reducible assumption | omega | assumption)) ?_) rfl
    rintro _ _ ⟨rfl, rfl⟩
    refine AE.u 6 rfl (by decide +kernel) (Dtu.mv (lk rfl)) rfl ?_
    refine AE.u 7 rfl (by decide +kernel) (Dtu.ext (lk rfl) rfl) rfl ?_
    refine AE.u 8 rfl (by decide +kernel) (Dtu.ext (lk rfl) rfl) rfl ?_
    refine AE.more [9] (by decide +kernel) rfl ⟨?_, trivial⟩
    refine AEI.s rfl (Stp.alloc ty86 (fun b6 => ?_)) rfl
    refine AE.more [10] (by decide +kernel) rfl ⟨?_, trivial⟩
    refine AEI.e rfl (Stp.store 0 Try.sizeOf86 (lk rfl) (lk rfl) rfl rfl rfl rfl rfl rfl rfl ?_)
    refine AE.u 11 rfl (by decide +kernel) (Dtu.asg (lk rfl)) rfl ?_
    refine AE.done (by decide +kernel) ?_
    refine Then.next ?_
    refine Body.seq ?_
    refine Body.seq ?_
    refine Body.region ?_
    refine Ops.u (Dtu.mv (lk rfl)) rfl ?_
    refine Ops.u (Dtu.eql (lk rfl) (lk rfl)) rfl ?_
    refine Ops.nil ?_
    refine Then.next ?_
    refine Body.condP (lk rfl) (fun _ => ?_) (fun hn => absurd (by first | omega | assumption | decide) hn)
    refine Body.region ?_
    refine Ops.u (Dtu.mv (lk rfl)) rfl ?_
    refine Ops.d (Det.lda Try.isAgg86 Try.sizeOf86 (lk rfl) (Rds.ow (m := 2) 0 rfl rfl) rfl) rfl ?_
    refine Ops.u (Dtu.nilck (lk rfl)) rfl ?_
    refine Ops.u (Dtu.fld fa104_3 (lk rfl)) rfl ?_
    refine Ops.e (Stp.store 1 Try.sizeOf86 (lk rfl) (lk rfl) rfl rfl rfl rfl rfl rfl rfl ?_)
    refine Ops.nil ?_
    refine Then.next ?_
    refine Body.seq ?_
    refine Body.region ?_
    refine Ops.u (Dtu.mv (lk rfl)) rfl ?_
    refine Ops.u (Dtu.asg (lk rfl)) rfl ?_
    refine Ops.nil ?_
    refine Then.next ?_
    refine Body.ret ?_
    exact ⟨.inr rfl, _, pk [1] rfl, rfl, rfl⟩
  · refine AEI.s rfl (Stp.alloc ty86 (fun b6 => ?_)) rfl
    refine AE.more [5] (by decide +kernel) rfl ⟨?_, trivial⟩
    refine AEI.s rfl (Stp.call rfl Try.call94 (lks rfl) (fun E' le hat => bor_ok E' _ _ _ (by first | with_reducible assumption | omega | assumption) (by first | with_reducible assumption | omega | assumption) (by first | with_reducible assumption | omega | assumption) (by first | with_reducible assumption | omega | assumption)) ?_) rfl
    rintro _ _ ⟨rfl, rfl⟩
    refine AE.u 6 rfl (by decide +kernel) (Dtu.mv (lk rfl)) rfl ?_
    refine AE.u 7 rfl (by decide +kernel) (Dtu.ext (lk rfl) rfl) rfl ?_
    refine AE.u 8 rfl (by decide +kernel) (Dtu.ext (lk rfl) rfl) rfl ?_
    refine AE.more [10] (by decide +kernel) rfl ⟨?_, trivial⟩
    refine AEI.e rfl (Stp.store 0 Try.sizeOf86 (lk rfl) (lk rfl) rfl rfl rfl rfl rfl rfl rfl ?_)
    refine AE.u 11 rfl (by decide +kernel) (Dtu.asg (lk rfl)) rfl ?_
    refine AE.done (by decide +kernel) ?_
    refine Then.next ?_
    refine Body.seq ?_
    refine Body.seq ?_
    refine Body.region ?_
    refine Ops.u (Dtu.mv (lk rfl)) rfl ?_
    refine Ops.u (Dtu.eql (lk rfl) (lk rfl)) rfl ?_
    refine Ops.nil ?_
    refine Then.next ?_
    refine Body.condP (lk rfl) (fun _ => ?_) (fun hn => absurd (by first | omega | assumption | decide) hn)
    refine Body.region ?_
    refine Ops.u (Dtu.mv (lk rfl)) rfl ?_
    refine Ops.d (Det.lda Try.isAgg86 Try.sizeOf86 (lk rfl) (Rds.ow (m := 2) 0 rfl rfl) rfl) rfl ?_
    refine Ops.u (Dtu.nilck (lk rfl)) rfl ?_
    refine Ops.u (Dtu.fld fa104_3 (lk rfl)) rfl ?_
    refine Ops.e (Stp.store 1 Try.sizeOf86 (lk rfl) (lk rfl) rfl rfl rfl rfl rfl rfl rfl ?_)
    refine Ops.nil ?_
    refine Then.next ?_
    refine Body.seq ?_
    refine Body.region ?_
    refine Ops.u (Dtu.mv (lk rfl)) rfl ?_
    refine Ops.u (Dtu.asg (lk rfl)) rfl ?_
    refine Ops.nil ?_
    refine Then.next ?_
    refine Body.ret ?_
    exact ⟨.inr rfl, _, pk [1] rfl, rfl, rfl⟩
theorem sknow_n (E : Env) (b : Nat) (z : Snd) (ok : z.Ok) (a : Option Addr) (c : Nat) (n x : Int) (hx : U64 x) (ha : askF (bmR n x) n z.n z.gone ≠ 0) : Does Try.prog 46 #[.pointer (some ⟨b, 0, none⟩), .agg #[.int .i64 n, .int .u64 x]] E ([own b (.bool true :: .int .u64 z.id :: .string z.nm :: .int .i64 (z.bs.length : Nat) :: .int .u8 (z.sm 0) :: .int .u8 (z.sm 1) :: .int .u8 (z.sm 2) :: .int .u8 (z.sm 3) :: .int .u8 (z.sm 4) :: .int .u8 (z.sm 5) :: .int .u8 (z.sm 6) :: .int .u8 (z.sm 7) :: .int .u8 (z.sm 8) :: .int .u8 (z.sm 9) :: .int .u8 (z.sm 10) :: .int .u8 (z.sm 11) :: .int .u8 (z.sm 12) :: .int .u8 (z.sm 13) :: .int .u8 (z.sm 14) :: .int .u8 (z.sm 15) :: .int .u8 (z.sm 16) :: .int .u8 (z.sm 17) :: .int .u8 (z.sm 18) :: .int .u8 (z.sm 19) :: .int .u8 (z.sm 20) :: .int .u8 (z.sm 21) :: .int .u8 (z.sm 22) :: .int .u8 (z.sm 23) :: .int .u8 (z.sm 24) :: .int .u8 (z.sm 25) :: .int .u8 (z.sm 26) :: .int .u8 (z.sm 27) :: .int .u8 (z.sm 28) :: .int .u8 (z.sm 29) :: .int .u8 (z.sm 30) :: .int .u8 (z.sm 31) :: .slice a z.bs.length c :: .int .i64 z.n :: .int .u64 z.x :: .int .i64 z.pos :: .bool z.gone :: []) 104]) fun r H' => r = .int .i64 (askF (bmR n x) n z.n z.gone) ∧ H' = [own b (.bool true :: .int .u64 z.id :: .string z.nm :: .int .i64 (z.bs.length : Nat) :: .int .u8 (z.sm 0) :: .int .u8 (z.sm 1) :: .int .u8 (z.sm 2) :: .int .u8 (z.sm 3) :: .int .u8 (z.sm 4) :: .int .u8 (z.sm 5) :: .int .u8 (z.sm 6) :: .int .u8 (z.sm 7) :: .int .u8 (z.sm 8) :: .int .u8 (z.sm 9) :: .int .u8 (z.sm 10) :: .int .u8 (z.sm 11) :: .int .u8 (z.sm 12) :: .int .u8 (z.sm 13) :: .int .u8 (z.sm 14) :: .int .u8 (z.sm 15) :: .int .u8 (z.sm 16) :: .int .u8 (z.sm 17) :: .int .u8 (z.sm 18) :: .int .u8 (z.sm 19) :: .int .u8 (z.sm 20) :: .int .u8 (z.sm 21) :: .int .u8 (z.sm 22) :: .int .u8 (z.sm 23) :: .int .u8 (z.sm 24) :: .int .u8 (z.sm 25) :: .int .u8 (z.sm 26) :: .int .u8 (z.sm 27) :: .int .u8 (z.sm 28) :: .int .u8 (z.sm 29) :: .int .u8 (z.sm 30) :: .int .u8 (z.sm 31) :: .slice a z.bs.length c :: .int .i64 z.n :: .int .u64 z.x :: .int .i64 z.pos :: .bool z.gone :: []) 104] := by
  refine Does.go _ _ Try.func46 rfl Try.ntmps46 rfl rfl ?_
  refine Body.seq ?_
  refine Body.region ?_
  refine Ops.s (Stp.box (lk rfl) rfl (fun b3 => ?_)) rfl
  refine Ops.u (Dtu.asg (lk rfl)) rfl ?_
  refine Ops.nil ?_
  refine Then.next ?_
  refine Body.seq ?_
  refine Body.seq ?_
  refine Body.region ?_
  refine Ops.u (Dtu.mv (lk rfl)) rfl ?_
  refine Ops.d (Det.lda Try.isAgg86 Try.sizeOf86 (lk rfl) (Rds.ow (m := 2) 0 rfl rfl) rfl) rfl ?_
  refine Ops.s (Stp.callOwn [1] rfl rfl Try.call93 (lks rfl) (fun E' le hat => sask_b E' _ _ (by first | with_reducible assumption | omega | assumption) _ _ _ _ (by first | with_reducible assumption | omega | assumption)) ?_) rfl
  rintro _ _ ⟨rfl, rfl⟩
  refine Ops.u (Dtu.asg (lk rfl)) rfl ?_
  refine Ops.nil ?_
  refine Then.next ?_
  refine Body.seq ?_
  refine Body.region ?_
  refine Ops.u (Dtu.mv (lk rfl)) rfl ?_
  refine Ops.u (Dtu.neq (lk rfl) (lk rfl)) rfl ?_
  refine Ops.nil ?_
  refine Then.next ?_
  refine Body.condP (lk rfl) (fun _ => ?_) (fun hn => absurd (by first | omega | assumption | decide) hn)
  refine Body.seq ?_
  refine Body.region ?_
  refine Ops.u (Dtu.mv (lk rfl)) rfl ?_
  refine Ops.u (Dtu.asg (lk rfl)) rfl ?_
  refine Ops.nil ?_
  refine Then.next ?_
  refine Body.ret ?_
  refine Then.ret ?_
  exact ⟨.inr rfl, _, pk [0] rfl, rfl, rfl⟩
theorem sanew_y (E : Env) (b : Nat) (z : Snd) (ok : z.Ok) (a : Option Addr) (c : Nat) (n : Int) (x : Nat) (hx : U64 x) (hr : bmR n x = true) (hn : n = z.n) (hg : z.gone = false) : Does Try.prog 48 #[.pointer (some ⟨b, 0, none⟩), .agg #[.int .i64 n, .int .u64 x]] E ([own b (.bool true :: .int .u64 z.id :: .string z.nm :: .int .i64 (z.bs.length : Nat) :: .int .u8 (z.sm 0) :: .int .u8 (z.sm 1) :: .int .u8 (z.sm 2) :: .int .u8 (z.sm 3) :: .int .u8 (z.sm 4) :: .int .u8 (z.sm 5) :: .int .u8 (z.sm 6) :: .int .u8 (z.sm 7) :: .int .u8 (z.sm 8) :: .int .u8 (z.sm 9) :: .int .u8 (z.sm 10) :: .int .u8 (z.sm 11) :: .int .u8 (z.sm 12) :: .int .u8 (z.sm 13) :: .int .u8 (z.sm 14) :: .int .u8 (z.sm 15) :: .int .u8 (z.sm 16) :: .int .u8 (z.sm 17) :: .int .u8 (z.sm 18) :: .int .u8 (z.sm 19) :: .int .u8 (z.sm 20) :: .int .u8 (z.sm 21) :: .int .u8 (z.sm 22) :: .int .u8 (z.sm 23) :: .int .u8 (z.sm 24) :: .int .u8 (z.sm 25) :: .int .u8 (z.sm 26) :: .int .u8 (z.sm 27) :: .int .u8 (z.sm 28) :: .int .u8 (z.sm 29) :: .int .u8 (z.sm 30) :: .int .u8 (z.sm 31) :: .slice a z.bs.length c :: .int .i64 z.n :: .int .u64 z.x :: .int .i64 z.pos :: .bool z.gone :: []) 104]) fun r H' => r = .int .i64 0 ∧ H' = [own b (.bool true :: .int .u64 z.id :: .string z.nm :: .int .i64 (z.bs.length : Nat) :: .int .u8 (z.sm 0) :: .int .u8 (z.sm 1) :: .int .u8 (z.sm 2) :: .int .u8 (z.sm 3) :: .int .u8 (z.sm 4) :: .int .u8 (z.sm 5) :: .int .u8 (z.sm 6) :: .int .u8 (z.sm 7) :: .int .u8 (z.sm 8) :: .int .u8 (z.sm 9) :: .int .u8 (z.sm 10) :: .int .u8 (z.sm 11) :: .int .u8 (z.sm 12) :: .int .u8 (z.sm 13) :: .int .u8 (z.sm 14) :: .int .u8 (z.sm 15) :: .int .u8 (z.sm 16) :: .int .u8 (z.sm 17) :: .int .u8 (z.sm 18) :: .int .u8 (z.sm 19) :: .int .u8 (z.sm 20) :: .int .u8 (z.sm 21) :: .int .u8 (z.sm 22) :: .int .u8 (z.sm 23) :: .int .u8 (z.sm 24) :: .int .u8 (z.sm 25) :: .int .u8 (z.sm 26) :: .int .u8 (z.sm 27) :: .int .u8 (z.sm 28) :: .int .u8 (z.sm 29) :: .int .u8 (z.sm 30) :: .int .u8 (z.sm 31) :: .slice a z.bs.length c :: .int .i64 z.n :: .int .u64 x :: .int .i64 ((0 : Nat) : Int) :: .bool z.gone :: []) 104] := by
  subst hn
  have ha : askF (bmR z.n x) z.n z.n z.gone = 0 := by rw [hr, hg]; simp [askF]
  refine Does.go _ _ Try.func48 rfl Try.ntmps48 rfl rfl ?_
  refine Body.seq ?_
  refine Body.region ?_
  refine Ops.s (Stp.box (lk rfl) rfl (fun b3 => ?_)) rfl
  refine Ops.u (Dtu.asg (lk rfl)) rfl ?_
  refine Ops.nil ?_
  refine Then.next ?_
  refine Body.seq ?_
  refine Body.region ?_
  refine Ops.u (Dtu.mv (lk rfl)) rfl ?_
  refine Ops.d (Det.lda Try.isAgg86 Try.sizeOf86 (lk rfl) (Rds.ow (m := 2) 0 rfl rfl) rfl) rfl ?_
  refine Ops.s (Stp.callOwn [1] rfl rfl Try.call93 (lks rfl) (fun E' le hat => sask_b E' _ _ (by first | with_reducible assumption | omega | assumption) _ _ _ _ (by first | with_reducible assumption | omega | assumption)) ?_) rfl
  rintro _ _ ⟨rfl, rfl⟩
  refine Ops.u (Dtu.asg (lk rfl)) rfl ?_
  refine Ops.nil ?_
  refine Then.next ?_
  refine Body.seq ?_
  refine Body.seq ?_
  refine Body.region ?_
  refine Ops.u (Dtu.mv (lk rfl)) rfl ?_
  refine Ops.u (Dtu.eql (lk rfl) (lk rfl)) rfl ?_
  refine Ops.nil ?_
  refine Then.next ?_
  refine Body.condP (lk rfl) (fun _ => ?_) (fun hn => absurd (by first | omega | assumption | decide) hn)
  refine Body.region ?_
  refine Ops.u (Dtu.mv (lk rfl)) rfl ?_
  refine Ops.u (Dtu.mv (lk rfl)) rfl ?_
  refine Ops.d (Det.lda Try.isAgg86 Try.sizeOf86 (lk rfl) (Rds.ow (m := 2) 1 rfl rfl) rfl) rfl ?_
  refine Ops.u (Dtu.nilck (lk rfl)) rfl ?_
  refine Ops.u (Dtu.fld fa104_3 (lk rfl)) rfl ?_
  refine Ops.e (Stp.store 0 Try.sizeOf86 (lk rfl) (lk rfl) rfl rfl rfl rfl rfl rfl rfl ?_)
  refine Ops.u (Dtu.nilck (lk rfl)) rfl ?_
  refine Ops.u (Dtu.fld fa104_4 (lk rfl)) rfl ?_
  refine Ops.e (Stp.store 0 Try.sizeOf3 (lk rfl) (lk rfl) rfl rfl rfl rfl rfl rfl rfl ?_)
  refine Ops.nil ?_
  refine Then.next ?_
  refine Body.seq ?_
  refine Body.region ?_
  refine Ops.u (Dtu.mv (lk rfl)) rfl ?_
  refine Ops.u (Dtu.asg (lk rfl)) rfl ?_
  refine Ops.nil ?_
  refine Then.next ?_
  refine Body.ret ?_
  rw [ha]
  exact ⟨.inr rfl, _, pk [0] rfl, rfl, rfl⟩
theorem sanew_n (E : Env) (b : Nat) (z : Snd) (ok : z.Ok) (a : Option Addr) (c : Nat) (n x : Int) (hx : U64 x) (ha : askF (bmR n x) n z.n z.gone ≠ 0) : Does Try.prog 48 #[.pointer (some ⟨b, 0, none⟩), .agg #[.int .i64 n, .int .u64 x]] E ([own b (.bool true :: .int .u64 z.id :: .string z.nm :: .int .i64 (z.bs.length : Nat) :: .int .u8 (z.sm 0) :: .int .u8 (z.sm 1) :: .int .u8 (z.sm 2) :: .int .u8 (z.sm 3) :: .int .u8 (z.sm 4) :: .int .u8 (z.sm 5) :: .int .u8 (z.sm 6) :: .int .u8 (z.sm 7) :: .int .u8 (z.sm 8) :: .int .u8 (z.sm 9) :: .int .u8 (z.sm 10) :: .int .u8 (z.sm 11) :: .int .u8 (z.sm 12) :: .int .u8 (z.sm 13) :: .int .u8 (z.sm 14) :: .int .u8 (z.sm 15) :: .int .u8 (z.sm 16) :: .int .u8 (z.sm 17) :: .int .u8 (z.sm 18) :: .int .u8 (z.sm 19) :: .int .u8 (z.sm 20) :: .int .u8 (z.sm 21) :: .int .u8 (z.sm 22) :: .int .u8 (z.sm 23) :: .int .u8 (z.sm 24) :: .int .u8 (z.sm 25) :: .int .u8 (z.sm 26) :: .int .u8 (z.sm 27) :: .int .u8 (z.sm 28) :: .int .u8 (z.sm 29) :: .int .u8 (z.sm 30) :: .int .u8 (z.sm 31) :: .slice a z.bs.length c :: .int .i64 z.n :: .int .u64 z.x :: .int .i64 z.pos :: .bool z.gone :: []) 104]) fun r H' => r = .int .i64 (askF (bmR n x) n z.n z.gone) ∧ H' = [own b (.bool true :: .int .u64 z.id :: .string z.nm :: .int .i64 (z.bs.length : Nat) :: .int .u8 (z.sm 0) :: .int .u8 (z.sm 1) :: .int .u8 (z.sm 2) :: .int .u8 (z.sm 3) :: .int .u8 (z.sm 4) :: .int .u8 (z.sm 5) :: .int .u8 (z.sm 6) :: .int .u8 (z.sm 7) :: .int .u8 (z.sm 8) :: .int .u8 (z.sm 9) :: .int .u8 (z.sm 10) :: .int .u8 (z.sm 11) :: .int .u8 (z.sm 12) :: .int .u8 (z.sm 13) :: .int .u8 (z.sm 14) :: .int .u8 (z.sm 15) :: .int .u8 (z.sm 16) :: .int .u8 (z.sm 17) :: .int .u8 (z.sm 18) :: .int .u8 (z.sm 19) :: .int .u8 (z.sm 20) :: .int .u8 (z.sm 21) :: .int .u8 (z.sm 22) :: .int .u8 (z.sm 23) :: .int .u8 (z.sm 24) :: .int .u8 (z.sm 25) :: .int .u8 (z.sm 26) :: .int .u8 (z.sm 27) :: .int .u8 (z.sm 28) :: .int .u8 (z.sm 29) :: .int .u8 (z.sm 30) :: .int .u8 (z.sm 31) :: .slice a z.bs.length c :: .int .i64 z.n :: .int .u64 z.x :: .int .i64 z.pos :: .bool z.gone :: []) 104] := by
  refine Does.go _ _ Try.func48 rfl Try.ntmps48 rfl rfl ?_
  refine Body.seq ?_
  refine Body.region ?_
  refine Ops.s (Stp.box (lk rfl) rfl (fun b3 => ?_)) rfl
  refine Ops.u (Dtu.asg (lk rfl)) rfl ?_
  refine Ops.nil ?_
  refine Then.next ?_
  refine Body.seq ?_
  refine Body.region ?_
  refine Ops.u (Dtu.mv (lk rfl)) rfl ?_
  refine Ops.d (Det.lda Try.isAgg86 Try.sizeOf86 (lk rfl) (Rds.ow (m := 2) 0 rfl rfl) rfl) rfl ?_
  refine Ops.s (Stp.callOwn [1] rfl rfl Try.call93 (lks rfl) (fun E' le hat => sask_b E' _ _ (by first | with_reducible assumption | omega | assumption) _ _ _ _ (by first | with_reducible assumption | omega | assumption)) ?_) rfl
  rintro _ _ ⟨rfl, rfl⟩
  refine Ops.u (Dtu.asg (lk rfl)) rfl ?_
  refine Ops.nil ?_
  refine Then.next ?_
  refine Body.seq ?_
  refine Body.seq ?_
  refine Body.region ?_
  refine Ops.u (Dtu.mv (lk rfl)) rfl ?_
  refine Ops.u (Dtu.eql (lk rfl) (lk rfl)) rfl ?_
  refine Ops.nil ?_
  refine Then.next ?_
  refine Body.condP (lk rfl) (fun hy => absurd hy (by first | omega | assumption | decide)) (fun _ => ?_)
  refine Body.skip ?_
  refine Then.next ?_
  refine Body.seq ?_
  refine Body.region ?_
  refine Ops.u (Dtu.mv (lk rfl)) rfl ?_
  refine Ops.u (Dtu.asg (lk rfl)) rfl ?_
  refine Ops.nil ?_
  refine Then.next ?_
  refine Body.ret ?_
  exact ⟨.inr rfl, _, pk [0] rfl, rfl, rfl⟩
theorem scancel_y (E : Env) (b : Nat) (z : Snd) (ok : z.Ok) (a : Option Addr) (c : Nat) (hst : z.st = 0) : Does Try.prog 49 #[.pointer (some ⟨b, 0, none⟩)] E ([own b (.bool true :: .int .u64 z.id :: .string z.nm :: .int .i64 (z.bs.length : Nat) :: .int .u8 (z.sm 0) :: .int .u8 (z.sm 1) :: .int .u8 (z.sm 2) :: .int .u8 (z.sm 3) :: .int .u8 (z.sm 4) :: .int .u8 (z.sm 5) :: .int .u8 (z.sm 6) :: .int .u8 (z.sm 7) :: .int .u8 (z.sm 8) :: .int .u8 (z.sm 9) :: .int .u8 (z.sm 10) :: .int .u8 (z.sm 11) :: .int .u8 (z.sm 12) :: .int .u8 (z.sm 13) :: .int .u8 (z.sm 14) :: .int .u8 (z.sm 15) :: .int .u8 (z.sm 16) :: .int .u8 (z.sm 17) :: .int .u8 (z.sm 18) :: .int .u8 (z.sm 19) :: .int .u8 (z.sm 20) :: .int .u8 (z.sm 21) :: .int .u8 (z.sm 22) :: .int .u8 (z.sm 23) :: .int .u8 (z.sm 24) :: .int .u8 (z.sm 25) :: .int .u8 (z.sm 26) :: .int .u8 (z.sm 27) :: .int .u8 (z.sm 28) :: .int .u8 (z.sm 29) :: .int .u8 (z.sm 30) :: .int .u8 (z.sm 31) :: .slice a z.bs.length c :: .int .i64 z.n :: .int .u64 z.x :: .int .i64 z.pos :: .bool z.gone :: []) 104]) fun r H' => r = .int .i64 0 ∧ H' = [own b (.bool true :: .int .u64 z.id :: .string z.nm :: .int .i64 (z.bs.length : Nat) :: .int .u8 (z.sm 0) :: .int .u8 (z.sm 1) :: .int .u8 (z.sm 2) :: .int .u8 (z.sm 3) :: .int .u8 (z.sm 4) :: .int .u8 (z.sm 5) :: .int .u8 (z.sm 6) :: .int .u8 (z.sm 7) :: .int .u8 (z.sm 8) :: .int .u8 (z.sm 9) :: .int .u8 (z.sm 10) :: .int .u8 (z.sm 11) :: .int .u8 (z.sm 12) :: .int .u8 (z.sm 13) :: .int .u8 (z.sm 14) :: .int .u8 (z.sm 15) :: .int .u8 (z.sm 16) :: .int .u8 (z.sm 17) :: .int .u8 (z.sm 18) :: .int .u8 (z.sm 19) :: .int .u8 (z.sm 20) :: .int .u8 (z.sm 21) :: .int .u8 (z.sm 22) :: .int .u8 (z.sm 23) :: .int .u8 (z.sm 24) :: .int .u8 (z.sm 25) :: .int .u8 (z.sm 26) :: .int .u8 (z.sm 27) :: .int .u8 (z.sm 28) :: .int .u8 (z.sm 29) :: .int .u8 (z.sm 30) :: .int .u8 (z.sm 31) :: .slice a z.bs.length c :: .int .i64 z.n :: .int .u64 z.x :: .int .i64 z.pos :: .bool true :: []) 104] := by
  refine Does.go _ _ Try.func49 rfl Try.ntmps49 rfl rfl ?_
  refine Body.seq ?_
  refine Body.region ?_
  refine Ops.u (Dtu.asg (lk rfl)) rfl ?_
  refine Ops.nil ?_
  refine Then.next ?_
  refine Body.seq ?_
  refine Body.block ?_
  refine Body.seq ?_
  refine Body.region ?_
  refine Ops.u (Dtu.mv (lk rfl)) rfl ?_
  refine Ops.u (Dtu.eqNil Try.underlying75 (lk rfl) (lk rfl)) rfl ?_
  refine Ops.u (Dtu.mv (lk rfl)) rfl ?_
  refine Ops.gu rfl rfl rfl (Dtu.mv (lk rfl)) rfl ?_
  refine Ops.gu rfl rfl rfl (Dtu.nilck (lk rfl)) rfl ?_
  refine Ops.gu rfl rfl rfl (Dtu.fld fa104_0 (lk rfl)) rfl ?_
  refine Ops.gd rfl rfl rfl (Det.ld Try.isAgg4 (lk rfl) (Rd.ow 0 rfl rfl)) rfl ?_
  refine Ops.gu rfl rfl rfl (Dtu.not (lk rfl)) rfl ?_
  refine Ops.u (Dtu.pickF (lk rfl) (lk rfl)) rfl ?_
  refine Ops.u (Dtu.asg (lk rfl)) rfl ?_
  refine Ops.nil ?_
  refine Then.next ?_
  refine Body.condF (lk rfl) ?_
  refine Body.seq ?_
  refine Body.region ?_
  refine Ops.u (Dtu.mv (lk rfl)) rfl ?_
  refine Ops.s (Stp.callOwn [0] rfl rfl Try.call53 (lks rfl) (fun E' le hat => sstate_b E' _ _ (by first | with_reducible assumption | omega | assumption) _ _) ?_) rfl
  rintro _ _ ⟨rfl, rfl⟩
  refine Ops.u (Dtu.neq (lk rfl) (lk rfl)) rfl ?_
  refine Ops.u (Dtu.asg (lk rfl)) rfl ?_
  refine Ops.nil ?_
  refine Then.next ?_
  refine Body.condP (lk rfl) (fun hy => absurd hy (by first | omega | assumption | decide)) (fun _ => ?_)
  refine Body.skip ?_
  refine Blk.norm ?_
  refine Then.next ?_
  refine Body.seq ?_
  refine Body.region ?_
  refine Ops.u (Dtu.mv (lk rfl)) rfl ?_
  refine Ops.u (Dtu.nilck (lk rfl)) rfl ?_
  refine Ops.u (Dtu.fld fa104_5 (lk rfl)) rfl ?_
  refine Ops.e (Stp.store 0 Try.sizeOf4 (lk rfl) (lk rfl) rfl rfl rfl rfl rfl rfl rfl ?_)
  refine Ops.nil ?_
  refine Then.next ?_
  refine Body.seq ?_
  refine Body.region ?_
  refine Ops.u (Dtu.asg (lk rfl)) rfl ?_
  refine Ops.nil ?_
  refine Then.next ?_
  refine Body.ret ?_
  exact ⟨.inr rfl, _, pk [0] rfl, rfl, rfl⟩
theorem scancel_n (E : Env) (b : Nat) (z : Snd) (ok : z.Ok) (a : Option Addr) (c : Nat) (hst : z.st ≠ 0) : Does Try.prog 49 #[.pointer (some ⟨b, 0, none⟩)] E ([own b (.bool true :: .int .u64 z.id :: .string z.nm :: .int .i64 (z.bs.length : Nat) :: .int .u8 (z.sm 0) :: .int .u8 (z.sm 1) :: .int .u8 (z.sm 2) :: .int .u8 (z.sm 3) :: .int .u8 (z.sm 4) :: .int .u8 (z.sm 5) :: .int .u8 (z.sm 6) :: .int .u8 (z.sm 7) :: .int .u8 (z.sm 8) :: .int .u8 (z.sm 9) :: .int .u8 (z.sm 10) :: .int .u8 (z.sm 11) :: .int .u8 (z.sm 12) :: .int .u8 (z.sm 13) :: .int .u8 (z.sm 14) :: .int .u8 (z.sm 15) :: .int .u8 (z.sm 16) :: .int .u8 (z.sm 17) :: .int .u8 (z.sm 18) :: .int .u8 (z.sm 19) :: .int .u8 (z.sm 20) :: .int .u8 (z.sm 21) :: .int .u8 (z.sm 22) :: .int .u8 (z.sm 23) :: .int .u8 (z.sm 24) :: .int .u8 (z.sm 25) :: .int .u8 (z.sm 26) :: .int .u8 (z.sm 27) :: .int .u8 (z.sm 28) :: .int .u8 (z.sm 29) :: .int .u8 (z.sm 30) :: .int .u8 (z.sm 31) :: .slice a z.bs.length c :: .int .i64 z.n :: .int .u64 z.x :: .int .i64 z.pos :: .bool z.gone :: []) 104]) fun r H' => r = .int .i64 7 ∧ H' = [own b (.bool true :: .int .u64 z.id :: .string z.nm :: .int .i64 (z.bs.length : Nat) :: .int .u8 (z.sm 0) :: .int .u8 (z.sm 1) :: .int .u8 (z.sm 2) :: .int .u8 (z.sm 3) :: .int .u8 (z.sm 4) :: .int .u8 (z.sm 5) :: .int .u8 (z.sm 6) :: .int .u8 (z.sm 7) :: .int .u8 (z.sm 8) :: .int .u8 (z.sm 9) :: .int .u8 (z.sm 10) :: .int .u8 (z.sm 11) :: .int .u8 (z.sm 12) :: .int .u8 (z.sm 13) :: .int .u8 (z.sm 14) :: .int .u8 (z.sm 15) :: .int .u8 (z.sm 16) :: .int .u8 (z.sm 17) :: .int .u8 (z.sm 18) :: .int .u8 (z.sm 19) :: .int .u8 (z.sm 20) :: .int .u8 (z.sm 21) :: .int .u8 (z.sm 22) :: .int .u8 (z.sm 23) :: .int .u8 (z.sm 24) :: .int .u8 (z.sm 25) :: .int .u8 (z.sm 26) :: .int .u8 (z.sm 27) :: .int .u8 (z.sm 28) :: .int .u8 (z.sm 29) :: .int .u8 (z.sm 30) :: .int .u8 (z.sm 31) :: .slice a z.bs.length c :: .int .i64 z.n :: .int .u64 z.x :: .int .i64 z.pos :: .bool z.gone :: []) 104] := by
  refine Does.go _ _ Try.func49 rfl Try.ntmps49 rfl rfl ?_
  refine Body.seq ?_
  refine Body.region ?_
  refine Ops.u (Dtu.asg (lk rfl)) rfl ?_
  refine Ops.nil ?_
  refine Then.next ?_
  refine Body.seq ?_
  refine Body.block ?_
  refine Body.seq ?_
  refine Body.region ?_
  refine Ops.u (Dtu.mv (lk rfl)) rfl ?_
  refine Ops.u (Dtu.eqNil Try.underlying75 (lk rfl) (lk rfl)) rfl ?_
  refine Ops.u (Dtu.mv (lk rfl)) rfl ?_
  refine Ops.gu rfl rfl rfl (Dtu.mv (lk rfl)) rfl ?_
  refine Ops.gu rfl rfl rfl (Dtu.nilck (lk rfl)) rfl ?_
  refine Ops.gu rfl rfl rfl (Dtu.fld fa104_0 (lk rfl)) rfl ?_
  refine Ops.gd rfl rfl rfl (Det.ld Try.isAgg4 (lk rfl) (Rd.ow 0 rfl rfl)) rfl ?_
  refine Ops.gu rfl rfl rfl (Dtu.not (lk rfl)) rfl ?_
  refine Ops.u (Dtu.pickF (lk rfl) (lk rfl)) rfl ?_
  refine Ops.u (Dtu.asg (lk rfl)) rfl ?_
  refine Ops.nil ?_
  refine Then.next ?_
  refine Body.condF (lk rfl) ?_
  refine Body.seq ?_
  refine Body.region ?_
  refine Ops.u (Dtu.mv (lk rfl)) rfl ?_
  refine Ops.s (Stp.callOwn [0] rfl rfl Try.call53 (lks rfl) (fun E' le hat => sstate_b E' _ _ (by first | with_reducible assumption | omega | assumption) _ _) ?_) rfl
  rintro _ _ ⟨rfl, rfl⟩
  refine Ops.u (Dtu.neq (lk rfl) (lk rfl)) rfl ?_
  refine Ops.u (Dtu.asg (lk rfl)) rfl ?_
  refine Ops.nil ?_
  refine Then.next ?_
  refine Body.condP (lk rfl) (fun _ => ?_) (fun hn => absurd (by first | omega | assumption | decide) hn)
  refine Body.seq ?_
  refine Body.region ?_
  refine Ops.u (Dtu.asg (lk rfl)) rfl ?_
  refine Ops.nil ?_
  refine Then.next ?_
  refine Body.ret ?_
  refine Blk.ret ?_
  refine Then.ret ?_
  exact ⟨.inr rfl, _, pk [0] rfl, rfl, rfl⟩
theorem sinfo_b (E : Env) (b : Nat) (z : Snd) (a : Option Addr) (c : Nat) : Does Try.prog 55 #[.pointer (some ⟨b, 0, none⟩)] E ([own b (.bool true :: .int .u64 z.id :: .string z.nm :: .int .i64 (z.bs.length : Nat) :: .int .u8 (z.sm 0) :: .int .u8 (z.sm 1) :: .int .u8 (z.sm 2) :: .int .u8 (z.sm 3) :: .int .u8 (z.sm 4) :: .int .u8 (z.sm 5) :: .int .u8 (z.sm 6) :: .int .u8 (z.sm 7) :: .int .u8 (z.sm 8) :: .int .u8 (z.sm 9) :: .int .u8 (z.sm 10) :: .int .u8 (z.sm 11) :: .int .u8 (z.sm 12) :: .int .u8 (z.sm 13) :: .int .u8 (z.sm 14) :: .int .u8 (z.sm 15) :: .int .u8 (z.sm 16) :: .int .u8 (z.sm 17) :: .int .u8 (z.sm 18) :: .int .u8 (z.sm 19) :: .int .u8 (z.sm 20) :: .int .u8 (z.sm 21) :: .int .u8 (z.sm 22) :: .int .u8 (z.sm 23) :: .int .u8 (z.sm 24) :: .int .u8 (z.sm 25) :: .int .u8 (z.sm 26) :: .int .u8 (z.sm 27) :: .int .u8 (z.sm 28) :: .int .u8 (z.sm 29) :: .int .u8 (z.sm 30) :: .int .u8 (z.sm 31) :: .slice a z.bs.length c :: .int .i64 z.n :: .int .u64 z.x :: .int .i64 z.pos :: .bool z.gone :: []) 104]) fun r H' => r = .agg (.int .u64 z.id :: .string z.nm :: .int .i64 (z.bs.length : Nat) :: .int .u8 (z.sm 0) :: .int .u8 (z.sm 1) :: .int .u8 (z.sm 2) :: .int .u8 (z.sm 3) :: .int .u8 (z.sm 4) :: .int .u8 (z.sm 5) :: .int .u8 (z.sm 6) :: .int .u8 (z.sm 7) :: .int .u8 (z.sm 8) :: .int .u8 (z.sm 9) :: .int .u8 (z.sm 10) :: .int .u8 (z.sm 11) :: .int .u8 (z.sm 12) :: .int .u8 (z.sm 13) :: .int .u8 (z.sm 14) :: .int .u8 (z.sm 15) :: .int .u8 (z.sm 16) :: .int .u8 (z.sm 17) :: .int .u8 (z.sm 18) :: .int .u8 (z.sm 19) :: .int .u8 (z.sm 20) :: .int .u8 (z.sm 21) :: .int .u8 (z.sm 22) :: .int .u8 (z.sm 23) :: .int .u8 (z.sm 24) :: .int .u8 (z.sm 25) :: .int .u8 (z.sm 26) :: .int .u8 (z.sm 27) :: .int .u8 (z.sm 28) :: .int .u8 (z.sm 29) :: .int .u8 (z.sm 30) :: .int .u8 (z.sm 31) :: []).toArray ∧ H' = [own b (.bool true :: .int .u64 z.id :: .string z.nm :: .int .i64 (z.bs.length : Nat) :: .int .u8 (z.sm 0) :: .int .u8 (z.sm 1) :: .int .u8 (z.sm 2) :: .int .u8 (z.sm 3) :: .int .u8 (z.sm 4) :: .int .u8 (z.sm 5) :: .int .u8 (z.sm 6) :: .int .u8 (z.sm 7) :: .int .u8 (z.sm 8) :: .int .u8 (z.sm 9) :: .int .u8 (z.sm 10) :: .int .u8 (z.sm 11) :: .int .u8 (z.sm 12) :: .int .u8 (z.sm 13) :: .int .u8 (z.sm 14) :: .int .u8 (z.sm 15) :: .int .u8 (z.sm 16) :: .int .u8 (z.sm 17) :: .int .u8 (z.sm 18) :: .int .u8 (z.sm 19) :: .int .u8 (z.sm 20) :: .int .u8 (z.sm 21) :: .int .u8 (z.sm 22) :: .int .u8 (z.sm 23) :: .int .u8 (z.sm 24) :: .int .u8 (z.sm 25) :: .int .u8 (z.sm 26) :: .int .u8 (z.sm 27) :: .int .u8 (z.sm 28) :: .int .u8 (z.sm 29) :: .int .u8 (z.sm 30) :: .int .u8 (z.sm 31) :: .slice a z.bs.length c :: .int .i64 z.n :: .int .u64 z.x :: .int .i64 z.pos :: .bool z.gone :: []) 104] := by
  refine Does.go _ _ Try.func55 rfl Try.ntmps55 rfl rfl ?_
  refine Body.seq ?_
  refine Body.region ?_
  refine Ops.s (Stp.alloc ty82 (fun b2 => ?_)) rfl
  refine Ops.nil ?_
  refine Then.next ?_
  refine Body.seq ?_
  refine Body.seq ?_
  refine Body.region ?_
  refine Ops.u (Dtu.mv (lk rfl)) rfl ?_
  refine Ops.u (Dtu.eqNil Try.underlying75 (lk rfl) (lk rfl)) rfl ?_
  refine Ops.nil ?_
  refine Then.next ?_
  refine Body.condF (lk rfl) ?_
  refine Body.skip ?_
  refine Then.next ?_
  refine Body.seq ?_
  refine Body.region ?_
  refine Ops.u (Dtu.mv (lk rfl)) rfl ?_
  refine Ops.u (Dtu.nilck (lk rfl)) rfl ?_
  refine Ops.u (Dtu.fld fa104_1 (lk rfl)) rfl ?_
  refine Ops.d (Det.lda Try.isAgg82 Try.sizeOf82 (lk rfl) (Rds.ow (m := 35) 1 rfl rfl) rfl) rfl ?_
  refine Ops.e (Stp.store 0 Try.sizeOf82 (lk rfl) (lk rfl) rfl rfl rfl rfl rfl rfl rfl ?_)
  refine Ops.nil ?_
  refine Then.next ?_
  refine Body.ret ?_
  exact ⟨.inr rfl, _, Loads.agg Try.isAgg82 Try.sizeOf82 (Rds.ow (m := 35) 0 rfl rfl) rfl, _, pk [1] rfl, rfl, rfl⟩
end Go.Proofs.Ytpmapedhigjalaa
end
section
/- file: New. -/
namespace Go.Proofs.Ytpmapedhigjalaa
set_option maxRecDepth 100000
set_option maxHeartbeats 4000000
set_option linter.unusedVariables false
set_option linter.unusedSimpArgs false
open Go.Sx


def shaS (bs : List Int) (i : Nat) : Int := (shaF bs)[i]!
theorem l32 {l : List Int} (h : l.length = 32) : l = (List.range 32).map fun i => l[i]! := by
  refine List.ext_getElem (by simp [h]) fun i h1 h2 => ?_
  rw [List.getElem_map, List.getElem_range, getElem!_pos l i h1]
theorem sha32 (bs : List Int) : (shaF bs).map (Value.int .u8) = (.int .u8 (shaS bs 0) :: .int .u8 (shaS bs 1) :: .int .u8 (shaS bs 2) :: .int .u8 (shaS bs 3) :: .int .u8 (shaS bs 4) :: .int .u8 (shaS bs 5) :: .int .u8 (shaS bs 6) :: .int .u8 (shaS bs 7) :: .int .u8 (shaS bs 8) :: .int .u8 (shaS bs 9) :: .int .u8 (shaS bs 10) :: .int .u8 (shaS bs 11) :: .int .u8 (shaS bs 12) :: .int .u8 (shaS bs 13) :: .int .u8 (shaS bs 14) :: .int .u8 (shaS bs 15) :: .int .u8 (shaS bs 16) :: .int .u8 (shaS bs 17) :: .int .u8 (shaS bs 18) :: .int .u8 (shaS bs 19) :: .int .u8 (shaS bs 20) :: .int .u8 (shaS bs 21) :: .int .u8 (shaS bs 22) :: .int .u8 (shaS bs 23) :: .int .u8 (shaS bs 24) :: .int .u8 (shaS bs 25) :: .int .u8 (shaS bs 26) :: .int .u8 (shaS bs 27) :: .int .u8 (shaS bs 28) :: .int .u8 (shaS bs 29) :: .int .u8 (shaS bs 30) :: .int .u8 (shaS bs 31) :: [] : List Value) := by
  rw [l32 (shaF_len bs)]
  rfl
theorem sof32_ok (E : Env) (parts p : Value) (bs : List Int) (hq : Sl E [] 1 parts 1 [p]) (hp : Sl E [] 1 p bs.length (bs.map (.int .u8))) (hb : Byt bs) (hlen : bs.length ≤ 140737488355000) : Does Try.prog 56 #[parts] E ([]) fun r H' => r = .agg (.int .u8 (shaS bs 0) :: .int .u8 (shaS bs 1) :: .int .u8 (shaS bs 2) :: .int .u8 (shaS bs 3) :: .int .u8 (shaS bs 4) :: .int .u8 (shaS bs 5) :: .int .u8 (shaS bs 6) :: .int .u8 (shaS bs 7) :: .int .u8 (shaS bs 8) :: .int .u8 (shaS bs 9) :: .int .u8 (shaS bs 10) :: .int .u8 (shaS bs 11) :: .int .u8 (shaS bs 12) :: .int .u8 (shaS bs 13) :: .int .u8 (shaS bs 14) :: .int .u8 (shaS bs 15) :: .int .u8 (shaS bs 16) :: .int .u8 (shaS bs 17) :: .int .u8 (shaS bs 18) :: .int .u8 (shaS bs 19) :: .int .u8 (shaS bs 20) :: .int .u8 (shaS bs 21) :: .int .u8 (shaS bs 22) :: .int .u8 (shaS bs 23) :: .int .u8 (shaS bs 24) :: .int .u8 (shaS bs 25) :: .int .u8 (shaS bs 26) :: .int .u8 (shaS bs 27) :: .int .u8 (shaS bs 28) :: .int .u8 (shaS bs 29) :: .int .u8 (shaS bs 30) :: .int .u8 (shaS bs 31) :: []).toArray ∧ H' = [] := by
  have := sof_ok E parts p bs hq hp hb hlen
  rwa [sha32] at this
def infoR (id : Int) (nm : ByteArray) (sz : Int) : Bool := decide (1 ≤ id ∧ id ≤ 4611686018427387903 ∧ 1 ≤ nm.size ∧ nm.size ≤ 24 ∧ 0 ≤ sz ∧ sz ≤ 4096)
theorem sright_ok (E : Env) (id : Int) (nm : ByteArray) (sz : Int) (sm : Nat → Int) : Does Try.prog 38 #[.agg (.int .u64 id :: .string nm :: .int .i64 sz :: .int .u8 (sm 0) :: .int .u8 (sm 1) :: .int .u8 (sm 2) :: .int .u8 (sm 3) :: .int .u8 (sm 4) :: .int .u8 (sm 5) :: .int .u8 (sm 6) :: .int .u8 (sm 7) :: .int .u8 (sm 8) :: .int .u8 (sm 9) :: .int .u8 (sm 10) :: .int .u8 (sm 11) :: .int .u8 (sm 12) :: .int .u8 (sm 13) :: .int .u8 (sm 14) :: .int .u8 (sm 15) :: .int .u8 (sm 16) :: .int .u8 (sm 17) :: .int .u8 (sm 18) :: .int .u8 (sm 19) :: .int .u8 (sm 20) :: .int .u8 (sm 21) :: .int .u8 (sm 22) :: .int .u8 (sm 23) :: .int .u8 (sm 24) :: .int .u8 (sm 25) :: .int .u8 (sm 26) :: .int .u8 (sm 27) :: .int .u8 (sm 28) :: .int .u8 (sm 29) :: .int .u8 (sm 30) :: .int .u8 (sm 31) :: []).toArray] E ([]) fun r H' => r = .bool (infoR id nm sz) ∧ H' = [] := by
  refine Does.go _ _ Try.func38 rfl Try.ntmps38 rfl rfl ?_
  refine Body.seq ?_
  refine Body.region ?_
  refine Ops.s (Stp.box (lk rfl) rfl (fun b1 => ?_)) rfl
  refine Ops.u (Dtu.asg (lk rfl)) rfl ?_
  refine Ops.nil ?_
  refine Then.next ?_
  refine Body.seq ?_
  refine Body.region ?_
  refine Ops.u (Dtu.fld fa82_0 (lk rfl)) rfl ?_
  refine Ops.d (Det.ld Try.isAgg72 (lk rfl) (Rd.ow 0 rfl rfl)) rfl ?_
  refine Ops.u (Dtu.geq (lk rfl) (lk rfl)) rfl ?_
  refine Ops.u (Dtu.mv (lk rfl)) rfl ?_
  refine Ops.decP 6 rfl (fun c6 => ?_) (fun c6 => ?_)
  · refine Ops.gu rfl rfl rfl (Dtu.fld fa82_0 (lk rfl)) rfl ?_
    refine Ops.gd rfl rfl rfl (Det.ld Try.isAgg72 (lk rfl) (Rd.ow 0 rfl rfl)) rfl ?_
    refine Ops.gu rfl rfl rfl (Dtu.leq (lk rfl) (lk rfl)) rfl ?_
    refine Ops.u (Dtu.pickT (lk rfl) (lk rfl)) rfl ?_
    refine Ops.u (Dtu.mv (lk rfl)) rfl ?_
    refine Ops.decP 11 rfl (fun c11 => ?_) (fun c11 => ?_)
    · refine Ops.gu rfl rfl rfl (Dtu.fld fa82_1 (lk rfl)) rfl ?_
      refine Ops.gd rfl rfl rfl (Det.ld Try.isAgg9 (lk rfl) (Rd.ow 0 rfl rfl)) rfl ?_
      refine Ops.gu rfl rfl rfl (Dtu.lenStr Try.underlying9 (lk rfl)) rfl ?_
      refine Ops.gu rfl rfl rfl (Dtu.geq (lk rfl) (lk rfl)) rfl ?_
      refine Ops.u (Dtu.pickT (lk rfl) (lk rfl)) rfl ?_
      refine Ops.u (Dtu.mv (lk rfl)) rfl ?_
      refine Ops.decP 17 rfl (fun c17 => ?_) (fun c17 => ?_)
      · refine Ops.gu rfl rfl rfl (Dtu.fld fa82_1 (lk rfl)) rfl ?_
        refine Ops.gd rfl rfl rfl (Det.ld Try.isAgg9 (lk rfl) (Rd.ow 0 rfl rfl)) rfl ?_
        refine Ops.gu rfl rfl rfl (Dtu.lenStr Try.underlying9 (lk rfl)) rfl ?_
        refine Ops.gu rfl rfl rfl (Dtu.leq (lk rfl) (lk rfl)) rfl ?_
        refine Ops.u (Dtu.pickT (lk rfl) (lk rfl)) rfl ?_
        refine Ops.u (Dtu.mv (lk rfl)) rfl ?_
        refine Ops.decP 23 rfl (fun c23 => ?_) (fun c23 => ?_)
        · refine Ops.gu rfl rfl rfl (Dtu.fld fa82_2 (lk rfl)) rfl ?_
          refine Ops.gd rfl rfl rfl (Det.ld Try.isAgg3 (lk rfl) (Rd.ow 0 rfl rfl)) rfl ?_
          refine Ops.gs rfl rfl rfl (Stp.call rfl Try.call91 (lks rfl) (fun E' le hat => ssize_ok E' _) ?_) rfl
          rintro _ _ ⟨rfl, rfl⟩
          refine Ops.u (Dtu.pickT (lk rfl) (lk rfl)) rfl ?_
          refine Ops.u (Dtu.asg (lk rfl)) rfl ?_
          refine Ops.nil ?_
          refine Then.next ?_
          refine Body.ret ?_
          (refine ⟨.inr rfl, _, pk [] rfl, bEq ?_, rfl⟩; simp [infoR]; omega)
        · refine Ops.gn rfl rfl rfl rfl rfl ?_
          refine Ops.gn rfl rfl rfl rfl rfl ?_
          refine Ops.gn rfl rfl rfl rfl rfl ?_
          refine Ops.u (Dtu.pickF (lk rfl) (lk rfl)) rfl ?_
          refine Ops.u (Dtu.asg (lk rfl)) rfl ?_
          refine Ops.nil ?_
          refine Then.next ?_
          refine Body.ret ?_
          (refine ⟨.inr rfl, _, pk [] rfl, bEq ?_, rfl⟩; simp [infoR]; omega)
      · refine Ops.gn rfl rfl rfl rfl rfl ?_
        refine Ops.gn rfl rfl rfl rfl rfl ?_
        refine Ops.gn rfl rfl rfl rfl rfl ?_
        refine Ops.gn rfl rfl rfl rfl rfl ?_
        refine Ops.u (Dtu.pickF (lk rfl) (lk rfl)) rfl ?_
        refine Ops.u (Dtu.mv (lk rfl)) rfl ?_
        refine Ops.gn rfl rfl rfl rfl rfl ?_
        refine Ops.gn rfl rfl rfl rfl rfl ?_
        refine Ops.gn rfl rfl rfl rfl rfl ?_
        refine Ops.u (Dtu.pickF (lk rfl) (lk rfl)) rfl ?_
        refine Ops.u (Dtu.asg (lk rfl)) rfl ?_
        refine Ops.nil ?_
        refine Then.next ?_
        refine Body.ret ?_
        (refine ⟨.inr rfl, _, pk [] rfl, bEq ?_, rfl⟩; simp [infoR]; omega)
    · refine Ops.gn rfl rfl rfl rfl rfl ?_
      refine Ops.gn rfl rfl rfl rfl rfl ?_
      refine Ops.gn rfl rfl rfl rfl rfl ?_
      refine Ops.gn rfl rfl rfl rfl rfl ?_
      refine Ops.u (Dtu.pickF (lk rfl) (lk rfl)) rfl ?_
      refine Ops.u (Dtu.mv (lk rfl)) rfl ?_
      refine Ops.gn rfl rfl rfl rfl rfl ?_
      refine Ops.gn rfl rfl rfl rfl rfl ?_
      refine Ops.gn rfl rfl rfl rfl rfl ?_
      refine Ops.gn rfl rfl rfl rfl rfl ?_
      refine Ops.u (Dtu.pickF (lk rfl) (lk rfl)) rfl ?_
      refine Ops.u (Dtu.mv (lk rfl)) rfl ?_
      refine Ops.gn rfl rfl rfl rfl rfl ?_
      refine Ops.gn rfl rfl rfl rfl rfl ?_
      refine Ops.gn rfl rfl rfl rfl rfl ?_
      refine Ops.u (Dtu.pickF (lk rfl) (lk rfl)) rfl ?_
      refine Ops.u (Dtu.asg (lk rfl)) rfl ?_
      refine Ops.nil ?_
      refine Then.next ?_
      refine Body.ret ?_
      (refine ⟨.inr rfl, _, pk [] rfl, bEq ?_, rfl⟩; simp [infoR]; omega)
  · refine Ops.gn rfl rfl rfl rfl rfl ?_
    refine Ops.gn rfl rfl rfl rfl rfl ?_
    refine Ops.gn rfl rfl rfl rfl rfl ?_
    refine Ops.u (Dtu.pickF (lk rfl) (lk rfl)) rfl ?_
    refine Ops.u (Dtu.mv (lk rfl)) rfl ?_
    refine Ops.gn rfl rfl rfl rfl rfl ?_
    refine Ops.gn rfl rfl rfl rfl rfl ?_
    refine Ops.gn rfl rfl rfl rfl rfl ?_
    refine Ops.gn rfl rfl rfl rfl rfl ?_
    refine Ops.u (Dtu.pickF (lk rfl) (lk rfl)) rfl ?_
    refine Ops.u (Dtu.mv (lk rfl)) rfl ?_
    refine Ops.gn rfl rfl rfl rfl rfl ?_
    refine Ops.gn rfl rfl rfl rfl rfl ?_
    refine Ops.gn rfl rfl rfl rfl rfl ?_
    refine Ops.gn rfl rfl rfl rfl rfl ?_
    refine Ops.u (Dtu.pickF (lk rfl) (lk rfl)) rfl ?_
    refine Ops.u (Dtu.mv (lk rfl)) rfl ?_
    refine Ops.gn rfl rfl rfl rfl rfl ?_
    refine Ops.gn rfl rfl rfl rfl rfl ?_
    refine Ops.gn rfl rfl rfl rfl rfl ?_
    refine Ops.u (Dtu.pickF (lk rfl) (lk rfl)) rfl ?_
    refine Ops.u (Dtu.asg (lk rfl)) rfl ?_
    refine Ops.nil ?_
    refine Then.next ?_
    refine Body.ret ?_
    (refine ⟨.inr rfl, _, pk [] rfl, bEq ?_, rfl⟩; simp [infoR]; omega)
theorem snew_b (E : Env) (id : Int) (nm : ByteArray) (bv : Value) (bs : List Int) (hs : Sl E [] 1 bv bs.length (bs.map (.int .u8))) (hb : Byt bs) (hi : infoR id nm bs.length = true) : Does Try.prog 37 #[.int .u64 id, .string nm, bv] E ([]) fun r H' => ∃ b a c, r = .tuple #[.pointer (some ⟨b, 0, none⟩), .int .i64 0] ∧ H' = [own b (.bool true :: .int .u64 id :: .string nm :: .int .i64 (bs.length : Nat) :: .int .u8 (shaS bs 0) :: .int .u8 (shaS bs 1) :: .int .u8 (shaS bs 2) :: .int .u8 (shaS bs 3) :: .int .u8 (shaS bs 4) :: .int .u8 (shaS bs 5) :: .int .u8 (shaS bs 6) :: .int .u8 (shaS bs 7) :: .int .u8 (shaS bs 8) :: .int .u8 (shaS bs 9) :: .int .u8 (shaS bs 10) :: .int .u8 (shaS bs 11) :: .int .u8 (shaS bs 12) :: .int .u8 (shaS bs 13) :: .int .u8 (shaS bs 14) :: .int .u8 (shaS bs 15) :: .int .u8 (shaS bs 16) :: .int .u8 (shaS bs 17) :: .int .u8 (shaS bs 18) :: .int .u8 (shaS bs 19) :: .int .u8 (shaS bs 20) :: .int .u8 (shaS bs 21) :: .int .u8 (shaS bs 22) :: .int .u8 (shaS bs 23) :: .int .u8 (shaS bs 24) :: .int .u8 (shaS bs 25) :: .int .u8 (shaS bs 26) :: .int .u8 (shaS bs 27) :: .int .u8 (shaS bs 28) :: .int .u8 (shaS bs 29) :: .int .u8 (shaS bs 30) :: .int .u8 (shaS bs 31) :: .slice a bs.length c :: .int .i64 ((bs.length + 63) / 64 : Nat) :: .int .u64 0 :: .int .i64 0 :: .bool false :: []) 104, osl 5 1 (.slice a bs.length c) bs.length (bs.map (.int .u8))] := by
  have hlen : bs.length ≤ 4096 := by have := of_decide_eq_true hi; omega
  have hl2 : bs.length ≤ 140737488355000 := by omega
  have hch : chZ bs.length = ((bs.length + 63) / 64 : Nat) := by unfold chZ; rw [if_pos (by omega)]; omega
  refine Does.pure (Sl.shape hs) fun ⟨a0, c0, hv⟩ => ?_
  subst hv
  refine Does.go _ _ Try.func37 rfl Try.ntmps37 rfl rfl ?_
  rw [← hch]
  refine Body.seq ?_
  refine Body.region ?_
  refine Ops.u (Dtu.asg (lk rfl)) rfl ?_
  refine Ops.u (Dtu.asg (lk rfl)) rfl ?_
  refine Ops.nil ?_
  refine Then.next ?_
  refine Body.seq ?_
  refine Body.region ?_
  refine Ops.u (Dtu.mv (lk rfl)) rfl ?_
  refine Ops.u (Dtu.mv (lk rfl)) rfl ?_
  refine Ops.u (Dtu.mv (lk rfl)) rfl ?_
  refine Ops.u (Dtu.lenS Try.underlying73 (Sl.up hs) (lk rfl)) rfl ?_
  refine Ops.u (Dtu.mv (lk rfl)) rfl ?_
  refine Ops.s (Stp.buildSliceO Try.underlying144 ty73 (by decide) (by decide) (lkp rfl) rfl rfl rfl (by decide) (fun v16 => ?_)) rfl
  refine Ops.s (Stp.call rfl Try.call56 (lks rfl) (fun E' le hat => sof32_ok E' _ _ _ (by first | exact Sl.mono (by assumption) le | exact Sl.hatI hat 0 rfl | exact Sl.hatI hat 1 rfl | exact Sl.hatI hat 2 rfl | exact Sl.hatI hat 3 rfl | exact Sl.hatI hat 4 rfl | exact Sl.hatI hat 5 rfl | exact Sl.hatI hat 6 rfl | exact Sl.hatI hat 7 rfl | exact Sl.hatI hat 8 rfl | exact Sl.hatI hat 9 rfl | exact Sl.hatI hat 10 rfl | exact Sl.hatI hat 11 rfl | exact Sl.hatI hat 12 rfl | exact Sl.hatI hat 13 rfl | exact Sl.hatI hat 14 rfl | exact Sl.hatI hat 15 rfl | exact Sl.hatW hat 0 rfl | exact Sl.hatW hat 1 rfl | exact Sl.hatW hat 2 rfl | exact Sl.hatW hat 3 rfl | exact Sl.hatW hat 4 rfl | exact Sl.hatW hat 5 rfl | exact Sl.hatW hat 6 rfl | exact Sl.hatW hat 7 rfl | exact Sl.hatW hat 8 rfl | exact Sl.hatW hat 9 rfl) (by first | exact Sl.mono (by assumption) le | exact Sl.hatI hat 0 rfl | exact Sl.hatI hat 1 rfl | exact Sl.hatI hat 2 rfl | exact Sl.hatI hat 3 rfl | exact Sl.hatI hat 4 rfl | exact Sl.hatI hat 5 rfl | exact Sl.hatI hat 6 rfl | exact Sl.hatI hat 7 rfl | exact Sl.hatI hat 8 rfl | exact Sl.hatI hat 9 rfl | exact Sl.hatI hat 10 rfl | exact Sl.hatI hat 11 rfl | exact Sl.hatI hat 12 rfl | exact Sl.hatI hat 13 rfl | exact Sl.hatI hat 14 rfl | exact Sl.hatI hat 15 rfl | exact Sl.hatW hat 0 rfl | exact Sl.hatW hat 1 rfl | exact Sl.hatW hat 2 rfl | exact Sl.hatW hat 3 rfl | exact Sl.hatW hat 4 rfl | exact Sl.hatW hat 5 rfl | exact Sl.hatW hat 6 rfl | exact Sl.hatW hat 7 rfl | exact Sl.hatW hat 8 rfl | exact Sl.hatW hat 9 rfl) (by first | with_reducible assumption | omega | assumption) (by first | with_reducible assumption | omega | assumption)) ?_) rfl
  rintro _ _ ⟨rfl, rfl⟩
  refine Ops.u (Dtu.build ty82 pl82 (lkp rfl) rfl rfl) rfl ?_
  refine Ops.s (Stp.alloc ty82 (fun b8 => ?_)) rfl
  refine Ops.e (Stp.store 0 Try.sizeOf82 (lk rfl) (lk rfl) rfl rfl rfl rfl rfl rfl rfl ?_)
  refine Ops.nil ?_
  refine Then.next ?_
  refine Body.seq ?_
  refine Body.seq ?_
  refine Body.region ?_
  refine Ops.d (Det.lda Try.isAgg82 Try.sizeOf82 (lk rfl) (Rds.ow (m := 35) 0 rfl rfl) rfl) rfl ?_
  refine Ops.s (Stp.call rfl Try.call38 (lks rfl) (fun E' le hat => sright_ok E' _ _ _ _) ?_) rfl
  rintro _ _ ⟨rfl, rfl⟩
  refine Ops.u (Dtu.not (lk rfl)) rfl ?_
  refine Ops.nil ?_
  refine Then.next ?_
  refine Body.cond (lk rfl) (fun hn => absurd hn (by first | (rw [hi]; decide) | simp [hi])) (fun _ => ?_)
  refine Body.skip ?_
  refine Then.next ?_
  refine Body.seq ?_
  refine Body.region ?_
  refine Ops.u (Dtu.mv (lk rfl)) rfl ?_
  refine Ops.u (Dtu.lenS Try.underlying73 (Sl.up hs) (lk rfl)) rfl ?_
  refine Ops.s (Stp.call rfl Try.call62 (lks rfl) (fun E' le hat => schunks_ok E' _) ?_) rfl
  rintro _ _ ⟨rfl, rfl⟩
  refine Ops.s (Stp.call rfl Try.call88 (lks rfl) (fun E' le hat => bnew_ok E' _ (by first | with_reducible assumption | omega | assumption)) ?_) rfl
  rintro _ _ ⟨rfl, rfl⟩
  refine Ops.u (Dtu.mv (lk rfl)) rfl ?_
  refine Ops.u (Dtu.ext (lk rfl) rfl) rfl ?_
  refine Ops.u (Dtu.ext (lk rfl) rfl) rfl ?_
  refine Ops.s (Stp.alloc ty86 (fun b9 => ?_)) rfl
  refine Ops.e (Stp.store 0 Try.sizeOf86 (lk rfl) (lk rfl) rfl rfl rfl rfl rfl rfl rfl ?_)
  refine Ops.u (Dtu.asg (lk rfl)) rfl ?_
  refine Ops.nil ?_
  refine Then.next ?_
  refine Body.seq ?_
  refine Body.seq ?_
  refine Body.region ?_
  refine Ops.u (Dtu.mv (lk rfl)) rfl ?_
  refine Ops.u (Dtu.neq (lk rfl) (lk rfl)) rfl ?_
  refine Ops.nil ?_
  refine Then.next ?_
  refine Body.condP (lk rfl) (fun hy => absurd hy (by first | omega | assumption | decide)) (fun _ => ?_)
  refine Body.skip ?_
  refine Then.next ?_
  refine Body.seq ?_
  refine Body.drawE [0, 0] mixed rfl ?_
  rintro E7' le7 ⟨hA7_0, hA7_1, -⟩
  have hs_7 := Sl.mono hs le7
  refine AE.d 0 rfl (by decide +kernel) (Det.lda Try.isAgg82 Try.sizeOf82 (lk rfl) (Rds.at (m := 35) hA7_1 rfl) rfl) rfl ?_
  refine AE.u 1 rfl (by decide +kernel) (Dtu.mv (lk rfl)) rfl ?_
  refine AE.d 3 rfl (by decide +kernel) (Det.lda Try.isAgg86 Try.sizeOf86 (lk rfl) (Rds.at (m := 2) hA7_0 rfl) rfl) rfl ?_
  refine AE.more [2] (by decide +kernel) rfl ⟨?_, trivial⟩
  refine AEI.s rfl (Stp.call rfl Try.call90 (lks rfl) (fun E' le hat => cloneB2_ok E' _ _ _ (by first | exact Sl.mono (by assumption) le | exact Sl.hatI hat 0 rfl | exact Sl.hatI hat 1 rfl | exact Sl.hatI hat 2 rfl | exact Sl.hatI hat 3 rfl | exact Sl.hatI hat 4 rfl | exact Sl.hatI hat 5 rfl | exact Sl.hatI hat 6 rfl | exact Sl.hatI hat 7 rfl | exact Sl.hatI hat 8 rfl | exact Sl.hatI hat 9 rfl | exact Sl.hatI hat 10 rfl | exact Sl.hatI hat 11 rfl | exact Sl.hatI hat 12 rfl | exact Sl.hatI hat 13 rfl | exact Sl.hatI hat 14 rfl | exact Sl.hatI hat 15 rfl | exact Sl.hatW hat 0 rfl | exact Sl.hatW hat 1 rfl | exact Sl.hatW hat 2 rfl | exact Sl.hatW hat 3 rfl | exact Sl.hatW hat 4 rfl | exact Sl.hatW hat 5 rfl | exact Sl.hatW hat 6 rfl | exact Sl.hatW hat 7 rfl | exact Sl.hatW hat 8 rfl | exact Sl.hatW hat 9 rfl) (u8s_one _) (by omega)) ?_) rfl
  rintro _ _ ⟨ca34, cc34, rfl, rfl⟩
  refine AE.u 4 rfl (by decide +kernel) (Dtu.build ty104 pl104 (lkp rfl) rfl rfl) rfl ?_
  refine AE.more [5] (by decide +kernel) rfl ⟨?_, trivial⟩
  refine AEI.s rfl (Stp.box (lk rfl) rfl (fun b37 => ?_)) rfl
  refine AE.u 6 rfl (by decide +kernel) (Dtu.asg (lk rfl)) rfl ?_
  refine AE.u 7 rfl (by decide +kernel) (Dtu.asg (lk rfl)) rfl ?_
  refine AE.done (by decide +kernel) ?_
  refine Then.next ?_
  refine Body.ret ?_
  exact ⟨.inr rfl, _, pk [0, 0] rfl, _, _, _, rfl, rfl⟩
end Go.Proofs.Ytpmapedhigjalaa
end
section
/- file: a sender as one thing. -/
namespace Go.Proofs.Ytpmapedhigjalaa
set_option maxRecDepth 100000
set_option maxHeartbeats 4000000
set_option linter.unusedVariables false
set_option linter.unusedSimpArgs false
open Go.Sx


def sndA (b : Nat) (z : Snd) (a : Option Addr) (c : Nat) : List HProp := [own b (.bool true :: .int .u64 z.id :: .string z.nm :: .int .i64 (z.bs.length : Nat) :: .int .u8 (z.sm 0) :: .int .u8 (z.sm 1) :: .int .u8 (z.sm 2) :: .int .u8 (z.sm 3) :: .int .u8 (z.sm 4) :: .int .u8 (z.sm 5) :: .int .u8 (z.sm 6) :: .int .u8 (z.sm 7) :: .int .u8 (z.sm 8) :: .int .u8 (z.sm 9) :: .int .u8 (z.sm 10) :: .int .u8 (z.sm 11) :: .int .u8 (z.sm 12) :: .int .u8 (z.sm 13) :: .int .u8 (z.sm 14) :: .int .u8 (z.sm 15) :: .int .u8 (z.sm 16) :: .int .u8 (z.sm 17) :: .int .u8 (z.sm 18) :: .int .u8 (z.sm 19) :: .int .u8 (z.sm 20) :: .int .u8 (z.sm 21) :: .int .u8 (z.sm 22) :: .int .u8 (z.sm 23) :: .int .u8 (z.sm 24) :: .int .u8 (z.sm 25) :: .int .u8 (z.sm 26) :: .int .u8 (z.sm 27) :: .int .u8 (z.sm 28) :: .int .u8 (z.sm 29) :: .int .u8 (z.sm 30) :: .int .u8 (z.sm 31) :: .slice a z.bs.length c :: .int .i64 z.n :: .int .u64 z.x :: .int .i64 z.pos :: .bool z.gone :: []) 104, osl 5 1 (.slice a z.bs.length c) z.bs.length (z.bs.map (.int .u8))]
def sndP (b : Nat) (z : Snd) : HProp := fun h => z.Ok ∧ ∃ a c, Sat (sndA b z a c) h
theorem sndP_out {E : Env} {b : Nat} {z : Snd} {H : List HProp} {w : World} (s : St E (sndP b z :: H) w) : z.Ok ∧ ∃ a c, St E (sndA b z a c ++ H) w := by
  obtain ⟨h, ⟨h1, h2, ⟨ok, a, c, s1⟩, s2, d, rfl⟩, dE, l⟩ := s.has
  exact ⟨ok, a, c, ⟨_, Sat.append.2 ⟨h1, h2, s1, s2, d, rfl⟩, dE, l⟩, s.keep, s.os, s.tape, s.output⟩
theorem sndP_in {E : Env} {b : Nat} {z : Snd} {a : Option Addr} {c : Nat} {H : List HProp} {w : World} (ok : z.Ok) (s : St E (sndA b z a c ++ H) w) : St E (sndP b z :: H) w := by
  obtain ⟨h, s0, dE, l⟩ := s.has
  obtain ⟨h1, h2, s1, s2, d, rfl⟩ := Sat.append.1 s0
  exact ⟨⟨_, ⟨h1, h2, ⟨ok, a, c, s1⟩, s2, d, rfl⟩, dE, l⟩, s.keep, s.os, s.tape, s.output⟩
section
variable {P : Program} {g : FuncId} {args : Array Value} {E : Env} {H : List HProp} {Q Q' : Value → List HProp → Prop}
theorem Does.pst (h : Does P g args E H Q) (k : ∀ v H', Q v H' → ∃ H2, (∀ w, St E H' w → St E H2 w) ∧ Q' v H2) : Does P g args E H Q' := fun w s =>
  (h w s).mono fun _ _ ⟨v, H', e, q, s'⟩ => let ⟨H2, hs, q'⟩ := k v H' q; ⟨v, H2, e, q', hs _ s'⟩
theorem Does.frm {Hc Hf : List HProp} (h : ∀ E', E.Le E' → (∀ A ∈ Hf, At A E') → Does P g args E' Hc Q) : Does P g args E (Hc ++ Hf) fun v H' => ∃ A, Q v A ∧ H' = A ++ Hf := fun w s => by
  obtain ⟨E', le, hat, s1, back⟩ := s.frame
  refine (h E' le hat w s1).mono ?_
  rintro e w' ⟨v, A, rfl, q, s'⟩
  exact ⟨v, A ++ Hf, rfl, ⟨A, q, rfl⟩, back A w' s'⟩
theorem Does.snd {b : Nat} {z : Snd} (h : z.Ok → ∀ a c, Does P g args E (sndA b z a c ++ H) Q) : Does P g args E (sndP b z :: H) Q := fun w s => by
  obtain ⟨ok, a, c, s'⟩ := sndP_out s
  exact h ok a c w s'
/-- a call that asks for the cells alone -/
theorem Does.sndO {b : Nat} {z z2 : Snd} (v : Value) (h2 : z.Ok → z2.Ok) (hb : z2.bs = z.bs) (h : z.Ok → ∀ E' a c, Does P g args E' [own b (.bool true :: .int .u64 z.id :: .string z.nm :: .int .i64 (z.bs.length : Nat) :: .int .u8 (z.sm 0) :: .int .u8 (z.sm 1) :: .int .u8 (z.sm 2) :: .int .u8 (z.sm 3) :: .int .u8 (z.sm 4) :: .int .u8 (z.sm 5) :: .int .u8 (z.sm 6) :: .int .u8 (z.sm 7) :: .int .u8 (z.sm 8) :: .int .u8 (z.sm 9) :: .int .u8 (z.sm 10) :: .int .u8 (z.sm 11) :: .int .u8 (z.sm 12) :: .int .u8 (z.sm 13) :: .int .u8 (z.sm 14) :: .int .u8 (z.sm 15) :: .int .u8 (z.sm 16) :: .int .u8 (z.sm 17) :: .int .u8 (z.sm 18) :: .int .u8 (z.sm 19) :: .int .u8 (z.sm 20) :: .int .u8 (z.sm 21) :: .int .u8 (z.sm 22) :: .int .u8 (z.sm 23) :: .int .u8 (z.sm 24) :: .int .u8 (z.sm 25) :: .int .u8 (z.sm 26) :: .int .u8 (z.sm 27) :: .int .u8 (z.sm 28) :: .int .u8 (z.sm 29) :: .int .u8 (z.sm 30) :: .int .u8 (z.sm 31) :: .slice a z.bs.length c :: .int .i64 z.n :: .int .u64 z.x :: .int .i64 z.pos :: .bool z.gone :: []) 104] fun r H' => r = v ∧ H' = [own b (.bool true :: .int .u64 z2.id :: .string z2.nm :: .int .i64 (z.bs.length : Nat) :: .int .u8 (z2.sm 0) :: .int .u8 (z2.sm 1) :: .int .u8 (z2.sm 2) :: .int .u8 (z2.sm 3) :: .int .u8 (z2.sm 4) :: .int .u8 (z2.sm 5) :: .int .u8 (z2.sm 6) :: .int .u8 (z2.sm 7) :: .int .u8 (z2.sm 8) :: .int .u8 (z2.sm 9) :: .int .u8 (z2.sm 10) :: .int .u8 (z2.sm 11) :: .int .u8 (z2.sm 12) :: .int .u8 (z2.sm 13) :: .int .u8 (z2.sm 14) :: .int .u8 (z2.sm 15) :: .int .u8 (z2.sm 16) :: .int .u8 (z2.sm 17) :: .int .u8 (z2.sm 18) :: .int .u8 (z2.sm 19) :: .int .u8 (z2.sm 20) :: .int .u8 (z2.sm 21) :: .int .u8 (z2.sm 22) :: .int .u8 (z2.sm 23) :: .int .u8 (z2.sm 24) :: .int .u8 (z2.sm 25) :: .int .u8 (z2.sm 26) :: .int .u8 (z2.sm 27) :: .int .u8 (z2.sm 28) :: .int .u8 (z2.sm 29) :: .int .u8 (z2.sm 30) :: .int .u8 (z2.sm 31) :: .slice a z.bs.length c :: .int .i64 z.n :: .int .u64 z2.x :: .int .i64 z2.pos :: .bool z2.gone :: []) 104]) : Does P g args E [sndP b z] fun r H' => r = v ∧ H' = [sndP b z2] := by
  refine Does.snd fun ok a c => ?_
  refine Does.pst (Does.frm (Hc := [_]) (Hf := [_]) fun E' _ _ => h ok E' a c) ?_
  rintro r H' ⟨A, ⟨rfl, rfl⟩, rfl⟩
  obtain ⟨id, nm, bs, sm, x, pos, gone⟩ := z
  obtain ⟨id2, nm2, bs2, sm2, x2, pos2, gone2⟩ := z2
  dsimp only at hb
  subst hb
  exact ⟨_, fun w s => sndP_in (h2 ok) s, rfl, rfl⟩
end
theorem state_s (E : Env) (b : Nat) (z : Snd) : Does Try.prog 53 #[.pointer (some ⟨b, 0, none⟩)] E ([sndP b z]) fun r H' => r = .int .i64 z.st ∧ H' = [sndP b z] := by
  exact Does.sndO _ id rfl fun ok E' a c => sstate_b E' b z ok a c
theorem left_s (E : Env) (b : Nat) (z : Snd) : Does Try.prog 51 #[.pointer (some ⟨b, 0, none⟩)] E ([sndP b z]) fun r H' => r = .int .i64 z.left ∧ H' = [sndP b z] := by
  exact Does.sndO _ id rfl fun ok E' a c => sleft_b E' b z ok a c
theorem info_s (E : Env) (b : Nat) (z : Snd) : Does Try.prog 55 #[.pointer (some ⟨b, 0, none⟩)] E ([sndP b z]) fun r H' => r = .agg (.int .u64 z.id :: .string z.nm :: .int .i64 (z.bs.length : Nat) :: .int .u8 (z.sm 0) :: .int .u8 (z.sm 1) :: .int .u8 (z.sm 2) :: .int .u8 (z.sm 3) :: .int .u8 (z.sm 4) :: .int .u8 (z.sm 5) :: .int .u8 (z.sm 6) :: .int .u8 (z.sm 7) :: .int .u8 (z.sm 8) :: .int .u8 (z.sm 9) :: .int .u8 (z.sm 10) :: .int .u8 (z.sm 11) :: .int .u8 (z.sm 12) :: .int .u8 (z.sm 13) :: .int .u8 (z.sm 14) :: .int .u8 (z.sm 15) :: .int .u8 (z.sm 16) :: .int .u8 (z.sm 17) :: .int .u8 (z.sm 18) :: .int .u8 (z.sm 19) :: .int .u8 (z.sm 20) :: .int .u8 (z.sm 21) :: .int .u8 (z.sm 22) :: .int .u8 (z.sm 23) :: .int .u8 (z.sm 24) :: .int .u8 (z.sm 25) :: .int .u8 (z.sm 26) :: .int .u8 (z.sm 27) :: .int .u8 (z.sm 28) :: .int .u8 (z.sm 29) :: .int .u8 (z.sm 30) :: .int .u8 (z.sm 31) :: []).toArray ∧ H' = [sndP b z] := by
  exact Does.sndO _ id rfl fun ok E' a c => sinfo_b E' b z a c
theorem peek_sn (E : Env) (b : Nat) (z : Snd) (hst : ¬ z.st = 0) : Does Try.prog 40 #[.pointer (some ⟨b, 0, none⟩)] E ([sndP b z]) fun r H' => r = .tuple #[.int .i64 0, .bool false] ∧ H' = [sndP b z] := by
  exact Does.sndO _ id rfl fun ok E' a c => speek_n E' b z ok a c hst
theorem peek_s (E : Env) (b : Nat) (z : Snd) (hst : z.st = 0) : Does Try.prog 40 #[.pointer (some ⟨b, 0, none⟩)] E ([sndP b z]) fun r H' => r = .tuple #[.int .i64 (lenN z.bs.length z.nxt), .bool true] ∧ H' = [sndP b z] := by
  exact Does.sndO _ id rfl fun ok E' a c => speek_y E' b z ok a c hst
theorem next_sn (E : Env) (b : Nat) (z : Snd) (hst : ¬ z.st = 0) : Does Try.prog 45 #[.pointer (some ⟨b, 0, none⟩)] E ([sndP b z]) fun r H' => r = .tuple #[.int .i64 0, .slice none 0 0, .bool false] ∧ H' = [sndP b z] := by
  exact Does.sndO _ id rfl fun ok E' a c => sNext_n E' b z ok a c hst
def Snd.gon (z : Snd) : Snd := ⟨z.id, z.nm, z.bs, z.sm, z.x, z.nxt + 1, z.gone⟩
theorem next_s (E : Env) (b : Nat) (z : Snd) (hst : z.st = 0) : Does Try.prog 45 #[.pointer (some ⟨b, 0, none⟩)] E ([sndP b z]) fun r H' => ∃ a2 c2, r = .tuple #[.int .i64 z.nxt, .slice a2 (lenN z.bs.length z.nxt) c2, .bool true] ∧ H' = [sndP b z.gon, osl 5 1 (.slice a2 (lenN z.bs.length z.nxt) c2) (lenN z.bs.length z.nxt) ((chunk z.bs z.nxt).map (.int .u8))] := by
  refine Does.snd fun ok a c => ?_
  refine Does.pst (sNext_y E b z ok a c hst) ?_
  rintro r H' ⟨a2, c2, rfl, rfl⟩
  exact ⟨[sndP b z.gon, _], fun w s => sndP_in (z := z.gon) (a := a) (c := c) ⟨ok.len, ok.x⟩ s, a2, c2, rfl, rfl⟩
/-- more is known -/
def Snd.know (z : Snd) (n x : Int) : Snd := if askF (bmR n x) n z.n z.gone = 0 then ⟨z.id, z.nm, z.bs, z.sm, z.x ||| x.toNat, z.pos, z.gone⟩ else z
/-- that alone is known -/
def Snd.anew (z : Snd) (n x : Int) : Snd := if askF (bmR n x) n z.n z.gone = 0 then ⟨z.id, z.nm, z.bs, z.sm, x.toNat, 0, z.gone⟩ else z
def Snd.cancel (z : Snd) : Snd := if z.st = 0 then ⟨z.id, z.nm, z.bs, z.sm, z.x, z.pos, true⟩ else z
theorem askF_0 {R G : Bool} {n m : Int} (h : askF R n m G = 0) : R = true ∧ n = m ∧ G = false := by
  unfold askF at h; cases R <;> cases G <;> simp at h ⊢ <;> (try split at h) <;> simp_all
theorem know_s (E : Env) (b : Nat) (z : Snd) (n x : Int) (hx : U64 x) : Does Try.prog 46 #[.pointer (some ⟨b, 0, none⟩), .agg #[.int .i64 n, .int .u64 x]] E ([sndP b z]) fun r H' => r = .int .i64 (askF (bmR n x) n z.n z.gone) ∧ H' = [sndP b (z.know n x)] := by
  by_cases h : askF (bmR n x) n z.n z.gone = 0
  · obtain ⟨h1, h2, h3⟩ := askF_0 h
    rw [Snd.know, if_pos h, h]
    exact Does.sndO _ (fun ok => ok.or hx h1 h2) rfl fun ok E' a c => sknow_y E' b z ok a c n x hx h1 h2 h3
  · rw [Snd.know, if_neg h]
    exact Does.sndO _ id rfl fun ok E' a c => sknow_n E' b z ok a c n x hx h
theorem anew_s (E : Env) (b : Nat) (z : Snd) (n x : Int) (hx : U64 x) : Does Try.prog 48 #[.pointer (some ⟨b, 0, none⟩), .agg #[.int .i64 n, .int .u64 x]] E ([sndP b z]) fun r H' => r = .int .i64 (askF (bmR n x) n z.n z.gone) ∧ H' = [sndP b (z.anew n x)] := by
  by_cases h : askF (bmR n x) n z.n z.gone = 0
  · obtain ⟨h1, h2, h3⟩ := askF_0 h
    rw [Snd.anew, if_pos h, h]
    obtain ⟨x, rfl⟩ := Int.eq_ofNat_of_zero_le hx.1
    refine Does.sndO _ (fun ok => ⟨ok.len, ?_⟩) rfl fun ok E' a c => sanew_y E' b z ok a c n x hx h1 h2 h3
    have := bmR_lt h1 hx.1
    rw [h2, Int.toNat_natCast] at this
    exact this
  · rw [Snd.anew, if_neg h]
    exact Does.sndO _ id rfl fun ok E' a c => sanew_n E' b z ok a c n x hx h
theorem cancel_s (E : Env) (b : Nat) (z : Snd) : Does Try.prog 49 #[.pointer (some ⟨b, 0, none⟩)] E ([sndP b z]) fun r H' => r = .int .i64 (if z.st = 0 then 0 else 7) ∧ H' = [sndP b z.cancel] := by
  by_cases h : z.st = 0
  · rw [Snd.cancel, if_pos h, if_pos h]
    exact Does.sndO _ (fun ok => ⟨ok.len, ok.x⟩) rfl fun ok E' a c => scancel_y E' b z ok a c h
  · rw [Snd.cancel, if_neg h, if_neg h]
    exact Does.sndO _ id rfl fun ok E' a c => scancel_n E' b z ok a c h
def Snd.new (id : Int) (nm : ByteArray) (bs : List Int) : Snd := ⟨id, nm, bs, shaS bs, 0, 0, false⟩
theorem new_s (E : Env) (id : Int) (nm : ByteArray) (bv : Value) (bs : List Int) (hs : Sl E [] 1 bv bs.length (bs.map (.int .u8))) (hb : Byt bs) (hi : infoR id nm bs.length = true) : Does Try.prog 37 #[.int .u64 id, .string nm, bv] E ([]) fun r H' => ∃ b, r = .tuple #[.pointer (some ⟨b, 0, none⟩), .int .i64 0] ∧ H' = [sndP b (Snd.new id nm bs)] := by
  have hl : bs.length ≤ 4096 := by have := of_decide_eq_true hi; omega
  refine Does.pst (snew_b E id nm bv bs hs hb hi) ?_
  rintro r H' ⟨b, a, c, rfl, rfl⟩
  exact ⟨[sndP b (Snd.new id nm bs)], fun w s => sndP_in (z := Snd.new id nm bs) (a := a) (c := c) ⟨hl, Nat.two_pow_pos _⟩ s, b, rfl, rfl⟩
end Go.Proofs.Ytpmapedhigjalaa
end
section
/- file: Costs. -/
namespace Go.Proofs.Ytpmapedhigjalaa
set_option maxRecDepth 100000
set_option maxHeartbeats 4000000
set_option linter.unusedVariables false
set_option linter.unusedSimpArgs false
open Go.Sx


structure SCs where
  j : Nat
  v : Value
  w : Value
theorem scosts_n (E : Env) (b : Nat) (z : Snd) (ok : z.Ok) (a : Option Addr) (c : Nat) (most : Nat) (hst : ¬ z.st = 0) : Does Try.prog 57 #[.pointer (some ⟨b, 0, none⟩), .int .i64 most] E ([own b (.bool true :: .int .u64 z.id :: .string z.nm :: .int .i64 (z.bs.length : Nat) :: .int .u8 (z.sm 0) :: .int .u8 (z.sm 1) :: .int .u8 (z.sm 2) :: .int .u8 (z.sm 3) :: .int .u8 (z.sm 4) :: .int .u8 (z.sm 5) :: .int .u8 (z.sm 6) :: .int .u8 (z.sm 7) :: .int .u8 (z.sm 8) :: .int .u8 (z.sm 9) :: .int .u8 (z.sm 10) :: .int .u8 (z.sm 11) :: .int .u8 (z.sm 12) :: .int .u8 (z.sm 13) :: .int .u8 (z.sm 14) :: .int .u8 (z.sm 15) :: .int .u8 (z.sm 16) :: .int .u8 (z.sm 17) :: .int .u8 (z.sm 18) :: .int .u8 (z.sm 19) :: .int .u8 (z.sm 20) :: .int .u8 (z.sm 21) :: .int .u8 (z.sm 22) :: .int .u8 (z.sm 23) :: .int .u8 (z.sm 24) :: .int .u8 (z.sm 25) :: .int .u8 (z.sm 26) :: .int .u8 (z.sm 27) :: .int .u8 (z.sm 28) :: .int .u8 (z.sm 29) :: .int .u8 (z.sm 30) :: .int .u8 (z.sm 31) :: .slice a z.bs.length c :: .int .i64 z.n :: .int .u64 z.x :: .int .i64 z.pos :: .bool z.gone :: []) 104]) fun r H' => r = .slice none 0 0 ∧ H' = [own b (.bool true :: .int .u64 z.id :: .string z.nm :: .int .i64 (z.bs.length : Nat) :: .int .u8 (z.sm 0) :: .int .u8 (z.sm 1) :: .int .u8 (z.sm 2) :: .int .u8 (z.sm 3) :: .int .u8 (z.sm 4) :: .int .u8 (z.sm 5) :: .int .u8 (z.sm 6) :: .int .u8 (z.sm 7) :: .int .u8 (z.sm 8) :: .int .u8 (z.sm 9) :: .int .u8 (z.sm 10) :: .int .u8 (z.sm 11) :: .int .u8 (z.sm 12) :: .int .u8 (z.sm 13) :: .int .u8 (z.sm 14) :: .int .u8 (z.sm 15) :: .int .u8 (z.sm 16) :: .int .u8 (z.sm 17) :: .int .u8 (z.sm 18) :: .int .u8 (z.sm 19) :: .int .u8 (z.sm 20) :: .int .u8 (z.sm 21) :: .int .u8 (z.sm 22) :: .int .u8 (z.sm 23) :: .int .u8 (z.sm 24) :: .int .u8 (z.sm 25) :: .int .u8 (z.sm 26) :: .int .u8 (z.sm 27) :: .int .u8 (z.sm 28) :: .int .u8 (z.sm 29) :: .int .u8 (z.sm 30) :: .int .u8 (z.sm 31) :: .slice a z.bs.length c :: .int .i64 z.n :: .int .u64 z.x :: .int .i64 z.pos :: .bool z.gone :: []) 104] := by
  have h0 := Snd.next_no hst
  refine Does.go _ _ Try.func57 rfl Try.ntmps57 rfl rfl ?_
  refine Body.seq ?_
  refine Body.region ?_
  refine Ops.u (Dtu.asg (lk rfl)) rfl ?_
  refine Ops.nil ?_
  refine Then.next ?_
  refine Body.seq ?_
  refine Body.region ?_
  refine Ops.u (Dtu.mv (lk rfl)) rfl ?_
  refine Ops.s (Stp.callOwn [0] rfl rfl Try.call92 (lks rfl) (fun E' le hat => snext_b E' _ _ (by first | with_reducible assumption | omega | assumption) _ _) ?_) rfl
  rintro _ _ ⟨rfl, rfl⟩
  refine Ops.u (Dtu.asg (lk rfl)) rfl ?_
  refine Ops.nil ?_
  refine Then.next ?_
  refine Body.seq ?_
  refine Body.seq ?_
  refine Body.region ?_
  refine Ops.u (Dtu.mv (lk rfl)) rfl ?_
  refine Ops.u (Dtu.lss (lk rfl) (lk rfl)) rfl ?_
  refine Ops.nil ?_
  refine Then.next ?_
  refine Body.condP (lk rfl) (fun _ => ?_) (fun hn => absurd (by first | omega | assumption | decide) hn)
  refine Body.seq ?_
  refine Body.region ?_
  refine Ops.u (Dtu.asg (lk rfl)) rfl ?_
  refine Ops.nil ?_
  refine Then.next ?_
  refine Body.ret ?_
  refine Then.ret ?_
  exact ⟨.inr rfl, _, pk [0] rfl, rfl, rfl⟩
theorem costs_sn (E : Env) (b : Nat) (z : Snd) (most : Nat) (hst : ¬ z.st = 0) : Does Try.prog 57 #[.pointer (some ⟨b, 0, none⟩), .int .i64 most] E ([sndP b z]) fun r H' => r = .slice none 0 0 ∧ H' = [sndP b z] := by
  exact Does.sndO _ id rfl fun ok E' a c => scosts_n E' b z ok a c most hst
end Go.Proofs.Ytpmapedhigjalaa
end
section
/- the document's sender: New, Left, State, Next, Bytes, Know, Cancel. -/
namespace Go.Proofs.Ytpmapedhigjalaa
set_option maxRecDepth 100000
set_option maxHeartbeats 4000000
set_option linter.unusedVariables false
set_option linter.unusedSimpArgs false
open Go.Sx

theorem pc_snoc (n x : Nat) : pc (n + 1) x = pc n x + (if x.testBit n then 1 else 0) := by
  rw [← pc_bl, ← pc_bl, bl_succ, List.count_append]
  cases h : x.testBit n <;> simp
end Go.Proofs.Ytpmapedhigjalaa
end
section
/- the document's sender: State, Next, Bytes, Cancel. -/
namespace Go.Proofs.Ytpmapedhigjalaa
set_option maxRecDepth 100000
set_option maxHeartbeats 4000000
set_option linter.unusedVariables false
set_option linter.unusedSimpArgs false
open Go.Sx

theorem pc_full {n x : Nat} (hx : x < 2 ^ n) : pc n x = n ↔ (x : Int) = allN n := by
  have he : allN (n : Int) = ((2 ^ n - 1 : Nat) : Int) := by
    rw [allN, Int.toNat_natCast, Int.ofNat_sub Nat.one_le_two_pow]; simp
  rw [he, Int.ofNat_inj, ← pc_bl]
  constructor
  · intro h
    refine bits_all hx fun i hi => ?_
    have h2 := (List.count_eq_length (a := true) (l := bl n x)).1 (by rw [h, bl_len])
    have := h2 (x.testBit i) (by simp only [bl, List.mem_map, List.mem_range]; exact ⟨i, hi, rfl⟩)
    exact this.symm
  · intro h
    rw [List.count_eq_length.2, bl_len]
    intro b hb
    simp only [bl, List.mem_map, List.mem_range] at hb
    obtain ⟨i, hi, rfl⟩ := hb
    rw [h, Nat.testBit_two_pow_sub_one]; simp [hi]
theorem Snd.left_st {z : Snd} (ok : z.Ok) (hg : z.gone = false) : z.left = 0 ↔ z.st = 2 := by
  have h1 := pc_full ok.x
  have h2 := pc_le z.n z.x
  unfold Snd.left Snd.st Snd.full
  rw [hg]
  simp only [Bool.false_eq_true, if_false, decide_eq_true_eq]
  by_cases h0 : (z.x : Int) = allN z.n
  · rw [if_pos h0]; have := h1.2 h0; omega
  · rw [if_neg h0]
    have : pc z.n z.x ≠ z.n := fun k => h0 (h1.1 k)
    omega
end Go.Proofs.Ytpmapedhigjalaa
end
section
/- the document's sender: Know, New. -/
namespace Go.Proofs.Ytpmapedhigjalaa
set_option maxRecDepth 100000
set_option maxHeartbeats 4000000
set_option linter.unusedVariables false
set_option linter.unusedSimpArgs false
open Go.Sx

end Go.Proofs.Ytpmapedhigjalaa
end
section
/- the order in which chunks are told; plain. -/
namespace Go.Proofs.Ytpmapedhigjalaa
set_option maxRecDepth 100000
set_option maxHeartbeats 4000000
set_option linter.unusedVariables false
set_option linter.unusedSimpArgs false
open Go.Sx

theorem miss_sorted (n x : Nat) : (miss n x).Pairwise (· < ·) := (List.pairwise_lt_range (n := n)).filter _
theorem sorted_lt {l : List Nat} (h : l.Pairwise (· < ·)) {i j : Nat} (hij : i < j) (hj : j < l.length) : l[i]! < l[j]! := by
  rw [getElem!_pos l i (by omega), getElem!_pos l j hj]
  exact List.pairwise_iff_getElem.1 h i j (by omega) hj hij
theorem sorted_le {l : List Nat} (h : l.Pairwise (· < ·)) {i j : Nat} (hij : i ≤ j) (hj : j < l.length) : l[i]! ≤ l[j]! := by
  rcases Nat.lt_or_eq_of_le hij with k | rfl
  · exact Nat.le_of_lt (sorted_lt h k hj)
  · exact Nat.le_refl _
/-- after a chunk comes the next one, or the first -/
theorem nx_step {l : List Nat} (h : l.Pairwise (· < ·)) {k : Nat} (hk : k < l.length) : nx l (l[k]! + 1) = l[(k + 1) % l.length]! := by
  unfold nx
  by_cases h1 : k + 1 < l.length
  · rw [find_at (j := k + 1) h1 (fun m hm => Nat.lt_succ_of_le (sorted_le h (by omega) hk)) (sorted_lt h (by omega) h1), Nat.mod_eq_of_lt h1]; rfl
  · have e : k + 1 = l.length := by omega
    rw [find_no (fun m hm => Nat.lt_succ_of_le (sorted_le h (by omega) hk)), e, Nat.mod_self]; rfl
theorem nx_at {l : List Nat} {p : Nat} (h : 0 < l.length) : ∃ a, a < l.length ∧ nx l p = l[a]! := by
  obtain ⟨a, ha, e⟩ := List.mem_iff_getElem.1 (nx_mem (p := p) h)
  exact ⟨a, ha, by rw [getElem!_pos l a ha, e]⟩
/-- the i-th chunk to be told, and the place ahead of it -/
def Snd.pl (z : Snd) : Nat → Nat
  | 0 => z.pos
  | i + 1 => nx (miss z.n z.x) (z.pl i) + 1
def Snd.cy (z : Snd) (i : Nat) : Nat := nx (miss z.n z.x) (z.pl i)
theorem Snd.cy_mem {z : Snd} (h : 0 < (miss z.n z.x).length) (i : Nat) : z.cy i ∈ miss z.n z.x := nx_mem h
theorem pc_miss (n x : Nat) : (miss n x).length = n - pc n x := by
  have h := pc_le n x
  suffices (miss n x).length + pc n x = n by omega
  clear h
  induction n with
  | zero => rfl
  | succ n ih =>
    rw [pc_snoc]
    cases hb : x.testBit n
    · rw [miss_n hb]; simp; omega
    · rw [miss_y hb]; simp; omega
end Go.Proofs.Ytpmapedhigjalaa
end
section
/- the law's costs. -/
namespace Go.Proofs.Ytpmapedhigjalaa
set_option maxRecDepth 100000
set_option maxHeartbeats 4000000
set_option linter.unusedVariables false
set_option linter.unusedSimpArgs false
open Go.Sx


end Go.Proofs.Ytpmapedhigjalaa
end
section
/- the document's sender, told by a sender's state. -/
namespace Go.Proofs.Ytpmapedhigjalaa
set_option maxRecDepth 100000
set_option maxHeartbeats 4000000
set_option linter.unusedVariables false
set_option linter.unusedSimpArgs false
open Go.Sx

theorem Snd.know_n (z : Snd) (n x : Int) : (z.know n x).n = z.n := by unfold Snd.know; split <;> rfl
end Go.Proofs.Ytpmapedhigjalaa
end
section
/- == of sums and of descriptions. -/
namespace Go.Proofs.Ytpmapedhigjalaa
set_option maxRecDepth 100000
set_option maxHeartbeats 4000000
set_option linter.unusedVariables false
set_option linter.unusedSimpArgs false
open Go.Sx


def eqS (s t : Nat → Int) : Bool := (List.range 32).all fun i => s i == t i
theorem eqS_same (s : Nat → Int) : eqS s s = true := by simp [eqS]
theorem eqItems_u8 {d : Nat} {e c : TypeId} {k : IntKind} {xs ys : List Value} {s t : Nat → Int} (hu : Try.prog.underlying e = some (.int k)) (hag : ∀ w, (isAgg e).run Try.prog w = .ok false w) (hx : ∀ i, i < 32 → xs[i * c]? = some (.int k (s i))) (hy : ∀ i, i < 32 → ys[i * c]? = some (.int k (t i))) (w : World) :
    ∀ is : List Nat, (∀ i ∈ is, i < 32) → (Op.eqItems (d + 1) e c xs.toArray ys.toArray is).run Try.prog w = .ok (is.all fun i => s i == t i) w
  | [], _ => by simp [Op.eqItems]
  | i :: is, h => by
    have hi := h i (by simp)
    have p1 := part_v (P := Try.prog) hag (hx i hi) w
    have p2 := part_v (P := Try.prog) hag (hy i hi) w
    have p3 := EqD.int (P := Try.prog) (d := d) (T := e) (k := k) (a := s i) (b := t i) hu w
    simp only [Op.eqItems, Sem.run_bind, p1, p2, p3, Result.andThen_ok]
    have ih := eqItems_u8 (d := d) hu hag hx hy w is fun j hj => h j (by simp [hj])
    cases hb : s i == t i
    · simp [List.all_cons, hb]
    · simp only [Bool.not_true, Bool.false_eq_true, if_false, List.all_cons, hb, Bool.true_and]; exact ih
theorem cells_u8 : ∃ i, Try.prog.info? 5 = some i := by
  have : (Try.prog.info? 5).isSome = true := by kernel_rfl
  exact Option.isSome_iff_exists.1 this
theorem EqD.sum {d : Nat} (s t : Nat → Int) : EqD Try.prog (d + 2) 80 (.agg (.int .u8 (s 0) :: .int .u8 (s 1) :: .int .u8 (s 2) :: .int .u8 (s 3) :: .int .u8 (s 4) :: .int .u8 (s 5) :: .int .u8 (s 6) :: .int .u8 (s 7) :: .int .u8 (s 8) :: .int .u8 (s 9) :: .int .u8 (s 10) :: .int .u8 (s 11) :: .int .u8 (s 12) :: .int .u8 (s 13) :: .int .u8 (s 14) :: .int .u8 (s 15) :: .int .u8 (s 16) :: .int .u8 (s 17) :: .int .u8 (s 18) :: .int .u8 (s 19) :: .int .u8 (s 20) :: .int .u8 (s 21) :: .int .u8 (s 22) :: .int .u8 (s 23) :: .int .u8 (s 24) :: .int .u8 (s 25) :: .int .u8 (s 26) :: .int .u8 (s 27) :: .int .u8 (s 28) :: .int .u8 (s 29) :: .int .u8 (s 30) :: .int .u8 (s 31) :: [] : List Value).toArray) (.agg (.int .u8 (t 0) :: .int .u8 (t 1) :: .int .u8 (t 2) :: .int .u8 (t 3) :: .int .u8 (t 4) :: .int .u8 (t 5) :: .int .u8 (t 6) :: .int .u8 (t 7) :: .int .u8 (t 8) :: .int .u8 (t 9) :: .int .u8 (t 10) :: .int .u8 (t 11) :: .int .u8 (t 12) :: .int .u8 (t 13) :: .int .u8 (t 14) :: .int .u8 (t 15) :: .int .u8 (t 16) :: .int .u8 (t 17) :: .int .u8 (t 18) :: .int .u8 (t 19) :: .int .u8 (t 20) :: .int .u8 (t 21) :: .int .u8 (t 22) :: .int .u8 (t 23) :: .int .u8 (t 24) :: .int .u8 (t 25) :: .int .u8 (t 26) :: .int .u8 (t 27) :: .int .u8 (t 28) :: .int .u8 (t 29) :: .int .u8 (t 30) :: .int .u8 (t 31) :: [] : List Value).toArray) (eqS s t) := fun w => by
  obtain ⟨i, hi⟩ := cells_u8
  have hc : Try.prog.cellsOf 5 = 1 := by
    have a := run_sizeOf w hi
    have b := Try.sizeOf5 w
    rw [a] at b
    injection b
  have hu : Try.prog.underlying 80 = some (.array 32 5) := Try.underlying80
  rw [show d + 2 = (d + 1) + 1 from rfl, run_equalIn_array w (d + 1) _ _ hu hi, hc]
  have key : ∀ (s : Nat → Int) (l : List Value), l = (List.range 32).map (fun i => Value.int .u8 (s i)) → ∀ i, i < 32 → l[i * 1]? = some (.int .u8 (s i)) := by
    rintro s l rfl i hi
    rw [Nat.mul_one, List.getElem?_map, List.getElem?_range hi]; rfl
  exact eqItems_u8 Try.underlying5 Try.isAgg5 (key s _ rfl) (key t _ rfl) w _ fun i hi => by simpa using hi
theorem eq80 (s t : Nat → Int) : EqAgg Try.prog 80 (.int .u8 (s 0) :: .int .u8 (s 1) :: .int .u8 (s 2) :: .int .u8 (s 3) :: .int .u8 (s 4) :: .int .u8 (s 5) :: .int .u8 (s 6) :: .int .u8 (s 7) :: .int .u8 (s 8) :: .int .u8 (s 9) :: .int .u8 (s 10) :: .int .u8 (s 11) :: .int .u8 (s 12) :: .int .u8 (s 13) :: .int .u8 (s 14) :: .int .u8 (s 15) :: .int .u8 (s 16) :: .int .u8 (s 17) :: .int .u8 (s 18) :: .int .u8 (s 19) :: .int .u8 (s 20) :: .int .u8 (s 21) :: .int .u8 (s 22) :: .int .u8 (s 23) :: .int .u8 (s 24) :: .int .u8 (s 25) :: .int .u8 (s 26) :: .int .u8 (s 27) :: .int .u8 (s 28) :: .int .u8 (s 29) :: .int .u8 (s 30) :: .int .u8 (s 31) :: []) (.int .u8 (t 0) :: .int .u8 (t 1) :: .int .u8 (t 2) :: .int .u8 (t 3) :: .int .u8 (t 4) :: .int .u8 (t 5) :: .int .u8 (t 6) :: .int .u8 (t 7) :: .int .u8 (t 8) :: .int .u8 (t 9) :: .int .u8 (t 10) :: .int .u8 (t 11) :: .int .u8 (t 12) :: .int .u8 (t 13) :: .int .u8 (t 14) :: .int .u8 (t 15) :: .int .u8 (t 16) :: .int .u8 (t 17) :: .int .u8 (t 18) :: .int .u8 (t 19) :: .int .u8 (t 20) :: .int .u8 (t 21) :: .int .u8 (t 22) :: .int .u8 (t 23) :: .int .u8 (t 24) :: .int .u8 (t 25) :: .int .u8 (t 26) :: .int .u8 (t 27) :: .int .u8 (t 28) :: .int .u8 (t 29) :: .int .u8 (t 30) :: .int .u8 (t 31) :: []) (eqS s t) := EqAgg.mk fun k => EqD.sum s t
theorem eqGuard80 : Try.prog.eqGuardType Try.prog.depth 80 = false := by kernel_rfl
end Go.Proofs.Ytpmapedhigjalaa
end
section
/- layer 26: alive. -/
namespace Go.Proofs.Ytpmapedhigjalaa
set_option maxRecDepth 100000
set_option maxHeartbeats 4000000
set_option linter.unusedVariables false
set_option linter.unusedSimpArgs false
open Go.Sx

def b65 : List Int := List.replicate 65 0
theorem b65_byt : Byt b65 := Byt.iff.2 fun x hx => by unfold b65 at hx; rw [List.mem_replicate] at hx; omega
def nmF : ByteArray := ⟨#[102]⟩
def zA : Snd := Snd.new 7 nmF b65
theorem newA_s (E : Env) (bv : Value) (hs : Sl E [] 1 bv 65 (b65.map (.int .u8))) : Does Try.prog 37 #[.int .u64 7, .string ⟨#[102]⟩, bv] E ([]) fun r H' => ∃ b, r = .tuple #[.pointer (some ⟨b, 0, none⟩), .int .i64 0] ∧ H' = [sndP b zA] := by
  exact new_s E 7 ⟨#[102]⟩ bv b65 hs b65_byt (by decide)
theorem sofA_ok (E : Env) (parts p : Value) (hq : Sl E [] 1 parts 1 [p]) (hp : Sl E [] 1 p 65 (b65.map (.int .u8))) : Does Try.prog 56 #[parts] E ([]) fun r H' => r = .agg (.int .u8 (shaS b65 0) :: .int .u8 (shaS b65 1) :: .int .u8 (shaS b65 2) :: .int .u8 (shaS b65 3) :: .int .u8 (shaS b65 4) :: .int .u8 (shaS b65 5) :: .int .u8 (shaS b65 6) :: .int .u8 (shaS b65 7) :: .int .u8 (shaS b65 8) :: .int .u8 (shaS b65 9) :: .int .u8 (shaS b65 10) :: .int .u8 (shaS b65 11) :: .int .u8 (shaS b65 12) :: .int .u8 (shaS b65 13) :: .int .u8 (shaS b65 14) :: .int .u8 (shaS b65 15) :: .int .u8 (shaS b65 16) :: .int .u8 (shaS b65 17) :: .int .u8 (shaS b65 18) :: .int .u8 (shaS b65 19) :: .int .u8 (shaS b65 20) :: .int .u8 (shaS b65 21) :: .int .u8 (shaS b65 22) :: .int .u8 (shaS b65 23) :: .int .u8 (shaS b65 24) :: .int .u8 (shaS b65 25) :: .int .u8 (shaS b65 26) :: .int .u8 (shaS b65 27) :: .int .u8 (shaS b65 28) :: .int .u8 (shaS b65 29) :: .int .u8 (shaS b65 30) :: .int .u8 (shaS b65 31) :: []).toArray ∧ H' = [] := by
  exact sof32_ok E parts p b65 hq hp b65_byt (by decide)
theorem alive26_ok (E : Env) : Does Try.prog 36 #[] E ([]) fun r H' => r = .bool true ∧ H' = [] := by
  refine Does.go _ _ Try.func36 rfl Try.ntmps36 rfl rfl ?_
  refine Body.seq ?_
  refine Body.region ?_
  refine Ops.u (Dtu.asg (lk rfl)) rfl ?_
  refine Ops.nil ?_
  refine Then.next ?_
  refine Body.seq ?_
  refine Body.region ?_
  refine Ops.s (Stp.make (m := 65) Try.underlying73 ty5 rfl (lk rfl) (lk rfl) (by omega) (by omega) (by omega) (fun v18 => ?_)) rfl
  refine Ops.s (Stp.call rfl Try.call37 (lks rfl) (fun E' le hat => newA_s E' _ (by first | exact Sl.mono (by assumption) le | exact Sl.hatI hat 0 rfl | exact Sl.hatI hat 1 rfl | exact Sl.hatI hat 2 rfl | exact Sl.hatI hat 3 rfl | exact Sl.hatI hat 4 rfl | exact Sl.hatI hat 5 rfl | exact Sl.hatI hat 6 rfl | exact Sl.hatI hat 7 rfl | exact Sl.hatI hat 8 rfl | exact Sl.hatI hat 9 rfl | exact Sl.hatI hat 10 rfl | exact Sl.hatI hat 11 rfl | exact Sl.hatI hat 12 rfl | exact Sl.hatI hat 13 rfl | exact Sl.hatI hat 14 rfl | exact Sl.hatI hat 15 rfl | exact Sl.hatW hat 0 rfl | exact Sl.hatW hat 1 rfl | exact Sl.hatW hat 2 rfl | exact Sl.hatW hat 3 rfl | exact Sl.hatW hat 4 rfl | exact Sl.hatW hat 5 rfl | exact Sl.hatW hat 6 rfl | exact Sl.hatW hat 7 rfl | exact Sl.hatW hat 8 rfl | exact Sl.hatW hat 9 rfl)) ?_) rfl
  rintro _ _ ⟨nb19, rfl, rfl⟩
  refine Ops.u (Dtu.mv (lk rfl)) rfl ?_
  refine Ops.u (Dtu.ext (lk rfl) rfl) rfl ?_
  refine Ops.u (Dtu.ext (lk rfl) rfl) rfl ?_
  refine Ops.u (Dtu.asg (lk rfl)) rfl ?_
  refine Ops.u (Dtu.asg (lk rfl)) rfl ?_
  refine Ops.nil ?_
  refine Then.next ?_
  refine Body.seq ?_
  refine Body.seq ?_
  refine Body.region ?_
  refine Ops.u (Dtu.mv (lk rfl)) rfl ?_
  refine Ops.u (Dtu.neq (lk rfl) (lk rfl)) rfl ?_
  refine Ops.u (Dtu.mv (lk rfl)) rfl ?_
  refine Ops.decP 24 rfl (fun hy => absurd hy (by first | omega | assumption | decide)) (fun _ => ?_)
  refine Ops.gu rfl rfl rfl (Dtu.mv (lk rfl)) rfl ?_
  refine Ops.gu rfl rfl rfl (Dtu.eqNil Try.underlying75 (lk rfl) (lk rfl)) rfl ?_
  refine Ops.u (Dtu.pickF (lk rfl) (lk rfl)) rfl ?_
  refine Ops.nil ?_
  refine Then.next ?_
  refine Body.condF (lk rfl) ?_
  refine Body.skip ?_
  refine Then.next ?_
  refine Body.seq ?_
  refine Body.region ?_
  refine Ops.u (Dtu.mv (lk rfl)) rfl ?_
  rw [show (List.replicate 65 [Value.int .u8 0]).flatten = b65.map (.int .u8) by rfl]
  have h0 : zA.st = 0 := by decide
  have h1 : zA.gon.st = 0 := by decide
  have hU0 : U64 0 := ⟨by decide, by decide⟩
  have hU1 : U64 1 := ⟨by decide, by decide⟩
  have hr0 : bmR 2 0 = true := by decide
  refine Ops.s (Stp.callOwn [0] rfl rfl Try.call45 (lks rfl) (fun E' le hat => next_s E' _ _ (by first | with_reducible assumption | omega | assumption)) ?_) rfl
  rintro _ _ ⟨na30, nc30, rfl, rfl⟩
  refine Ops.u (Dtu.mv (lk rfl)) rfl ?_
  refine Ops.u (Dtu.ext (lk rfl) rfl) rfl ?_
  refine Ops.u (Dtu.ext (lk rfl) rfl) rfl ?_
  refine Ops.u (Dtu.ext (lk rfl) rfl) rfl ?_
  refine Ops.u (Dtu.asg (lk rfl)) rfl ?_
  refine Ops.u (Dtu.asg (lk rfl)) rfl ?_
  refine Ops.u (Dtu.asg (lk rfl)) rfl ?_
  refine Ops.nil ?_
  refine Then.next ?_
  refine Body.seq ?_
  refine Body.region ?_
  refine Ops.s (Stp.call rfl Try.call88 (lks rfl) (fun E' le hat => bnew_ok E' _ (by first | with_reducible assumption | omega | assumption)) ?_) rfl
  rintro _ _ ⟨rfl, rfl⟩
  refine Ops.u (Dtu.mv (lk rfl)) rfl ?_
  refine Ops.u (Dtu.ext (lk rfl) rfl) rfl ?_
  refine Ops.u (Dtu.ext (lk rfl) rfl) rfl ?_
  refine Ops.s (Stp.alloc ty86 (fun b6 => ?_)) rfl
  refine Ops.e (Stp.store 0 Try.sizeOf86 (lk rfl) (lk rfl) rfl rfl rfl rfl rfl rfl rfl ?_)
  refine Ops.u (Dtu.asg (lk rfl)) rfl ?_
  refine Ops.nil ?_
  refine Then.next ?_
  refine Body.seq ?_
  refine Body.region ?_
  refine Ops.d (Det.lda Try.isAgg86 Try.sizeOf86 (lk rfl) (Rds.ow (m := 2) 0 rfl rfl) rfl) rfl ?_
  refine Ops.s (Stp.call rfl Try.call89 (lks rfl) (fun E' le hat => bwith_ok E' _ _ _ (by first | with_reducible assumption | omega | assumption) (by first | with_reducible assumption | omega | assumption) (by first | with_reducible assumption | omega | assumption)) ?_) rfl
  rintro _ _ ⟨rfl, rfl⟩
  refine Ops.u (Dtu.mv (lk rfl)) rfl ?_
  refine Ops.u (Dtu.ext (lk rfl) rfl) rfl ?_
  refine Ops.u (Dtu.ext (lk rfl) rfl) rfl ?_
  refine Ops.e (Stp.store 0 Try.sizeOf86 (lk rfl) (lk rfl) rfl rfl rfl rfl rfl rfl rfl ?_)
  refine Ops.nil ?_
  refine Then.next ?_
  rw [show orB 0 (2 ^ Int.toNat 0) = 1 by decide]
  have e1 : askF (bmR 2 1) 2 zA.gon.n zA.gon.gone = 0 := by decide
  have h2 : (zA.gon.know 2 1).st = 0 := by decide
  have h3 : (zA.gon.know 2 1).gon.st = 0 := by decide
  have h4 : (zA.gon.know 2 1).gon.gon.st = 0 := by decide
  have n0 : zA.nxt = 0 := by decide
  have n1 : lenN zA.bs.length 0 = 64 := by decide
  have n2 : (zA.gon.know 2 1).nxt = 1 := by decide
  have n3 : lenN (zA.gon.know 2 1).bs.length 1 = 1 := by decide
  have n4 : (zA.gon.know 2 1).gon.nxt = 1 := by decide
  have n5 : lenN (zA.gon.know 2 1).gon.bs.length 1 = 1 := by decide
  have n6 : (zA.gon.know 2 1).gon.gon.nxt = 1 := by decide
  have n7 : lenN (zA.gon.know 2 1).gon.gon.bs.length 1 = 1 := by decide
  have n8 : (zA.gon.know 2 1).gon.gon.left = 1 := by decide
  have n9 : (zA.gon.know 2 1).gon.gon.sm = shaS b65 := rfl
  have n10 : (zA.gon.know 2 1).gon.gon.st = 0 := h4
  refine Body.seq ?_
  refine Body.region ?_
  refine Ops.u (Dtu.mv (lk rfl)) rfl ?_
  refine Ops.d (Det.lda Try.isAgg86 Try.sizeOf86 (lk rfl) (Rds.ow (m := 2) 0 rfl rfl) rfl) rfl ?_
  refine Ops.s (Stp.callOwn [1] rfl rfl Try.call46 (lks rfl) (fun E' le hat => know_s E' _ _ _ _ (by first | with_reducible assumption | omega | assumption)) ?_) rfl
  rintro _ _ ⟨rfl, rfl⟩
  refine Ops.u (Dtu.asg (lk rfl)) rfl ?_
  refine Ops.nil ?_
  refine Then.next ?_
  refine Body.seq ?_
  refine Body.region ?_
  refine Ops.u (Dtu.mv (lk rfl)) rfl ?_
  refine Ops.s (Stp.callOwn [0] rfl rfl Try.call45 (lks rfl) (fun E' le hat => next_s E' _ _ (by first | with_reducible assumption | omega | assumption)) ?_) rfl
  rintro _ _ ⟨na48, nc48, rfl, rfl⟩
  refine Ops.u (Dtu.mv (lk rfl)) rfl ?_
  refine Ops.u (Dtu.ext (lk rfl) rfl) rfl ?_
  refine Ops.u (Dtu.ext (lk rfl) rfl) rfl ?_
  refine Ops.u (Dtu.ext (lk rfl) rfl) rfl ?_
  refine Ops.u (Dtu.asg (lk rfl)) rfl ?_
  refine Ops.u (Dtu.asg (lk rfl)) rfl ?_
  refine Ops.u (Dtu.asg (lk rfl)) rfl ?_
  refine Ops.nil ?_
  refine Then.next ?_
  refine Body.seq ?_
  refine Body.region ?_
  refine Ops.u (Dtu.mv (lk rfl)) rfl ?_
  refine Ops.s (Stp.callOwn [0] rfl rfl Try.call45 (lks rfl) (fun E' le hat => next_s E' _ _ (by first | with_reducible assumption | omega | assumption)) ?_) rfl
  rintro _ _ ⟨na54, nc54, rfl, rfl⟩
  refine Ops.u (Dtu.mv (lk rfl)) rfl ?_
  refine Ops.u (Dtu.ext (lk rfl) rfl) rfl ?_
  refine Ops.u (Dtu.ext (lk rfl) rfl) rfl ?_
  refine Ops.u (Dtu.ext (lk rfl) rfl) rfl ?_
  refine Ops.u (Dtu.asg (lk rfl)) rfl ?_
  refine Ops.u (Dtu.asg (lk rfl)) rfl ?_
  refine Ops.u (Dtu.asg (lk rfl)) rfl ?_
  refine Ops.nil ?_
  refine Then.next ?_
  refine Body.seq ?_
  refine Body.region ?_
  refine Ops.u (Dtu.mv (lk rfl)) rfl ?_
  refine Ops.s (Stp.callOwn [0] rfl rfl Try.call40 (lks rfl) (fun E' le hat => peek_s E' _ _ (by first | with_reducible assumption | omega | assumption)) ?_) rfl
  rintro _ _ ⟨rfl, rfl⟩
  refine Ops.u (Dtu.mv (lk rfl)) rfl ?_
  refine Ops.u (Dtu.ext (lk rfl) rfl) rfl ?_
  refine Ops.u (Dtu.ext (lk rfl) rfl) rfl ?_
  refine Ops.u (Dtu.asg (lk rfl)) rfl ?_
  refine Ops.u (Dtu.asg (lk rfl)) rfl ?_
  refine Ops.nil ?_
  refine Then.next ?_
  rw [n0, n2, n4, n6, n1, n3, n5, n7]
  generalize (zA.gon.know 2 1).gon.gon = z3 at *
  generalize chunk (zA.gon.know 2 1).gon.bs 1 = k1
  generalize chunk (zA.gon.know 2 1).bs 1 = k2
  generalize chunk zA.bs 0 = k3
  clear n0 n1 n2 n3 n4 n5 n6 n7 e1 h0 h1 h2 h3 hr0
  have hq : eqS z3.sm (shaS b65) = true := by rw [n9]; exact eqS_same _
  refine Body.seq ?_
  refine Body.drawE [] mixed rfl ?_
  rintro E11' le11 -
  refine AE.u 0 rfl (by decide +kernel) (Dtu.mv (lk rfl)) rfl ?_
  refine AE.u 1 rfl (by decide +kernel) (Dtu.eql (lk rfl) (lk rfl)) rfl ?_
  refine AE.u 2 rfl (by decide +kernel) (Dtu.mv (lk rfl)) rfl ?_
  refine AE.decP 65 rfl (fun _ => ?_) (fun hn => absurd (by first | omega | assumption | decide) hn)
  refine AE.gu 3 rfl (by decide +kernel) rfl rfl rfl (Dtu.mv (lk rfl)) rfl ?_
  refine AE.gu 4 rfl (by decide +kernel) rfl rfl rfl (Dtu.lenS Try.underlying73 (Sl.osl 4 rfl) (lk rfl)) rfl ?_
  refine AE.gu 5 rfl (by decide +kernel) rfl rfl rfl (Dtu.eql (lk rfl) (lk rfl)) rfl ?_
  refine AE.u 6 rfl (by decide +kernel) (Dtu.pickT (lk rfl) (lk rfl)) rfl ?_
  refine AE.u 7 rfl (by decide +kernel) (Dtu.mv (lk rfl)) rfl ?_
  refine AE.decP 70 rfl (fun _ => ?_) (fun hn => absurd (by first | omega | assumption | decide) hn)
  refine AE.gu 8 rfl (by decide +kernel) rfl rfl rfl (Dtu.mv (lk rfl)) rfl ?_
  refine AE.u 9 rfl (by decide +kernel) (Dtu.pickT (lk rfl) (lk rfl)) rfl ?_
  refine AE.u 10 rfl (by decide +kernel) (Dtu.mv (lk rfl)) rfl ?_
  refine AE.gu 11 rfl (by decide +kernel) rfl rfl rfl (Dtu.mv (lk rfl)) rfl ?_
  refine AE.gu 12 rfl (by decide +kernel) rfl rfl rfl (Dtu.eql (lk rfl) (lk rfl)) rfl ?_
  refine AE.u 13 rfl (by decide +kernel) (Dtu.pickT (lk rfl) (lk rfl)) rfl ?_
  refine AE.u 14 rfl (by decide +kernel) (Dtu.mv (lk rfl)) rfl ?_
  refine AE.decP 77 rfl (fun _ => ?_) (fun hn => absurd (by first | omega | assumption | decide) hn)
  refine AE.gu 15 rfl (by decide +kernel) rfl rfl rfl (Dtu.mv (lk rfl)) rfl ?_
  refine AE.gu 16 rfl (by decide +kernel) rfl rfl rfl (Dtu.eql (lk rfl) (lk rfl)) rfl ?_
  refine AE.u 17 rfl (by decide +kernel) (Dtu.pickT (lk rfl) (lk rfl)) rfl ?_
  refine AE.u 18 rfl (by decide +kernel) (Dtu.mv (lk rfl)) rfl ?_
  refine AE.decP 81 rfl (fun _ => ?_) (fun hn => absurd (by first | omega | assumption | decide) hn)
  refine AE.gu 19 rfl (by decide +kernel) rfl rfl rfl (Dtu.mv (lk rfl)) rfl ?_
  refine AE.gu 20 rfl (by decide +kernel) rfl rfl rfl (Dtu.lenS Try.underlying73 (Sl.osl 2 rfl) (lk rfl)) rfl ?_
  refine AE.gu 21 rfl (by decide +kernel) rfl rfl rfl (Dtu.eql (lk rfl) (lk rfl)) rfl ?_
  refine AE.u 22 rfl (by decide +kernel) (Dtu.pickT (lk rfl) (lk rfl)) rfl ?_
  refine AE.u 23 rfl (by decide +kernel) (Dtu.mv (lk rfl)) rfl ?_
  refine AE.decP 86 rfl (fun _ => ?_) (fun hn => absurd (by first | omega | assumption | decide) hn)
  refine AE.gu 24 rfl (by decide +kernel) rfl rfl rfl (Dtu.mv (lk rfl)) rfl ?_
  refine AE.u 25 rfl (by decide +kernel) (Dtu.pickT (lk rfl) (lk rfl)) rfl ?_
  refine AE.u 26 rfl (by decide +kernel) (Dtu.mv (lk rfl)) rfl ?_
  refine AE.gu 27 rfl (by decide +kernel) rfl rfl rfl (Dtu.mv (lk rfl)) rfl ?_
  refine AE.gu 28 rfl (by decide +kernel) rfl rfl rfl (Dtu.eql (lk rfl) (lk rfl)) rfl ?_
  refine AE.u 29 rfl (by decide +kernel) (Dtu.pickT (lk rfl) (lk rfl)) rfl ?_
  refine AE.u 30 rfl (by decide +kernel) (Dtu.mv (lk rfl)) rfl ?_
  refine AE.decP 93 rfl (fun _ => ?_) (fun hn => absurd (by first | omega | assumption | decide) hn)
  refine AE.gu 31 rfl (by decide +kernel) rfl rfl rfl (Dtu.mv (lk rfl)) rfl ?_
  refine AE.u 32 rfl (by decide +kernel) (Dtu.pickT (lk rfl) (lk rfl)) rfl ?_
  refine AE.u 33 rfl (by decide +kernel) (Dtu.mv (lk rfl)) rfl ?_
  refine AE.gu 34 rfl (by decide +kernel) rfl rfl rfl (Dtu.mv (lk rfl)) rfl ?_
  refine AE.gu 35 rfl (by decide +kernel) rfl rfl rfl (Dtu.eql (lk rfl) (lk rfl)) rfl ?_
  refine AE.u 36 rfl (by decide +kernel) (Dtu.pickT (lk rfl) (lk rfl)) rfl ?_
  refine AE.u 37 rfl (by decide +kernel) (Dtu.mv (lk rfl)) rfl ?_
  refine AE.decP 100 rfl (fun _ => ?_) (fun hn => absurd (by first | omega | assumption | decide) hn)
  refine AE.gu 38 rfl (by decide +kernel) rfl rfl rfl (Dtu.mv (lk rfl)) rfl ?_
  refine AE.u 39 rfl (by decide +kernel) (Dtu.pickT (lk rfl) (lk rfl)) rfl ?_
  refine AE.u 40 rfl (by decide +kernel) (Dtu.mv (lk rfl)) rfl ?_
  refine AE.gu 41 rfl (by decide +kernel) rfl rfl rfl (Dtu.mv (lk rfl)) rfl ?_
  refine AE.more [42] (by decide +kernel) rfl ⟨?_, trivial⟩
  refine AEI.gs rfl rfl rfl rfl (Stp.callOwn [0] rfl rfl Try.call51 (lks rfl) (fun E' le hat => left_s E' _ _) ?_) rfl
  rintro _ _ ⟨rfl, rfl⟩
  refine AE.gu 43 rfl (by decide +kernel) rfl rfl rfl (Dtu.eql (lk rfl) (lk rfl)) rfl ?_
  refine AE.u 44 rfl (by decide +kernel) (Dtu.pickT (lk rfl) (lk rfl)) rfl ?_
  refine AE.u 45 rfl (by decide +kernel) (Dtu.mv (lk rfl)) rfl ?_
  refine AE.decP 108 rfl (fun _ => ?_) (fun hn => absurd (by first | omega | assumption | decide) hn)
  refine AE.gu 46 rfl (by decide +kernel) rfl rfl rfl (Dtu.mv (lk rfl)) rfl ?_
  refine AE.more [47] (by decide +kernel) rfl ⟨?_, trivial⟩
  refine AEI.gs rfl rfl rfl rfl (Stp.callOwn [0] rfl rfl Try.call53 (lks rfl) (fun E' le hat => state_s E' _ _) ?_) rfl
  rintro _ _ ⟨rfl, rfl⟩
  refine AE.gu 48 rfl (by decide +kernel) rfl rfl rfl (Dtu.eql (lk rfl) (lk rfl)) rfl ?_
  refine AE.u 49 rfl (by decide +kernel) (Dtu.pickT (lk rfl) (lk rfl)) rfl ?_
  refine AE.u 50 rfl (by decide +kernel) (Dtu.mv (lk rfl)) rfl ?_
  refine AE.decP 113 rfl (fun _ => ?_) (fun hn => absurd (by first | omega | assumption | decide) hn)
  refine AE.gu 51 rfl (by decide +kernel) rfl rfl rfl (Dtu.mv (lk rfl)) rfl ?_
  refine AE.more [52, 54] (by decide +kernel) rfl ⟨?_, ?_, trivial⟩
  · refine AEI.gs rfl rfl rfl rfl (Stp.callOwn [0] rfl rfl Try.call55 (lks rfl) (fun E' le hat => info_s E' _ _) ?_) rfl
    rintro _ _ ⟨rfl, rfl⟩
    refine AE.gu 53 rfl (by decide +kernel) rfl rfl rfl (Dtu.fielda fo82_3 (lk rfl) rfl) rfl ?_
    refine AE.more [54] (by decide +kernel) rfl ⟨?_, trivial⟩
    refine AEI.gs rfl rfl rfl rfl (Stp.make (m := 65) Try.underlying73 ty5 rfl (lk rfl) (lk rfl) (by omega) (by omega) (by omega) (fun v117 => ?_)) rfl
    refine AE.pure (Sl.shape (Sl.osl 0 rfl)) fun hslv117 => ?_
    obtain ⟨v117a, v117c, rfl⟩ := hslv117
    refine AE.more [55] (by decide +kernel) rfl ⟨?_, trivial⟩
    refine AEI.gs rfl rfl rfl rfl (Stp.buildSliceO Try.underlying144 ty73 (by decide) (by decide) (lkp rfl) rfl rfl rfl (by decide) (fun v118 => ?_)) rfl
    refine AE.more [56] (by decide +kernel) rfl ⟨?_, trivial⟩
    refine AEI.gs rfl rfl rfl rfl (Stp.call rfl Try.call56 (lks rfl) (fun E' le hat => sofA_ok E' _ _ (by first | exact Sl.mono (by assumption) le | exact Sl.hatI hat 0 rfl | exact Sl.hatI hat 1 rfl | exact Sl.hatI hat 2 rfl | exact Sl.hatI hat 3 rfl | exact Sl.hatI hat 4 rfl | exact Sl.hatI hat 5 rfl | exact Sl.hatI hat 6 rfl | exact Sl.hatI hat 7 rfl | exact Sl.hatI hat 8 rfl | exact Sl.hatI hat 9 rfl | exact Sl.hatI hat 10 rfl | exact Sl.hatI hat 11 rfl | exact Sl.hatI hat 12 rfl | exact Sl.hatI hat 13 rfl | exact Sl.hatI hat 14 rfl | exact Sl.hatI hat 15 rfl | exact Sl.hatW hat 0 rfl | exact Sl.hatW hat 1 rfl | exact Sl.hatW hat 2 rfl | exact Sl.hatW hat 3 rfl | exact Sl.hatW hat 4 rfl | exact Sl.hatW hat 5 rfl | exact Sl.hatW hat 6 rfl | exact Sl.hatW hat 7 rfl | exact Sl.hatW hat 8 rfl | exact Sl.hatW hat 9 rfl) (by first | exact Sl.mono (by assumption) le | exact Sl.hatI hat 0 rfl | exact Sl.hatI hat 1 rfl | exact Sl.hatI hat 2 rfl | exact Sl.hatI hat 3 rfl | exact Sl.hatI hat 4 rfl | exact Sl.hatI hat 5 rfl | exact Sl.hatI hat 6 rfl | exact Sl.hatI hat 7 rfl | exact Sl.hatI hat 8 rfl | exact Sl.hatI hat 9 rfl | exact Sl.hatI hat 10 rfl | exact Sl.hatI hat 11 rfl | exact Sl.hatI hat 12 rfl | exact Sl.hatI hat 13 rfl | exact Sl.hatI hat 14 rfl | exact Sl.hatI hat 15 rfl | exact Sl.hatW hat 0 rfl | exact Sl.hatW hat 1 rfl | exact Sl.hatW hat 2 rfl | exact Sl.hatW hat 3 rfl | exact Sl.hatW hat 4 rfl | exact Sl.hatW hat 5 rfl | exact Sl.hatW hat 6 rfl | exact Sl.hatW hat 7 rfl | exact Sl.hatW hat 8 rfl | exact Sl.hatW hat 9 rfl)) ?_) rfl
    rintro _ _ ⟨rfl, rfl⟩
    refine AE.gu 57 rfl (by decide +kernel) rfl rfl rfl (Dtu.eqS eqGuard80 (eq80 _ _) (lk rfl) (lk rfl)) rfl ?_
    refine AE.u 58 rfl (by decide +kernel) (Dtu.pickT (lk rfl) (lk rfl)) rfl ?_
    refine AE.u 59 rfl (by decide +kernel) (Dtu.asg (lk rfl)) rfl ?_
    refine AE.done (by decide +kernel) ?_
    refine Then.next ?_
    refine Body.ret ?_
    exact ⟨.inr rfl, _, pk [] rfl, ⟨by rw [hq]; rfl, rfl⟩⟩
  · refine AEI.gs rfl rfl rfl rfl (Stp.make (m := 65) Try.underlying73 ty5 rfl (lk rfl) (lk rfl) (by omega) (by omega) (by omega) (fun v117 => ?_)) rfl
    refine AE.pure (Sl.shape (Sl.osl 0 rfl)) fun hslv117 => ?_
    obtain ⟨v117a, v117c, rfl⟩ := hslv117
    refine AE.more [52, 55] (by decide +kernel) rfl ⟨?_, ?_, trivial⟩
    · refine AEI.gs rfl rfl rfl rfl (Stp.callOwn [1] rfl rfl Try.call55 (lks rfl) (fun E' le hat => info_s E' _ _) ?_) rfl
      rintro _ _ ⟨rfl, rfl⟩
      refine AE.gu 53 rfl (by decide +kernel) rfl rfl rfl (Dtu.fielda fo82_3 (lk rfl) rfl) rfl ?_
      refine AE.more [55] (by decide +kernel) rfl ⟨?_, trivial⟩
      refine AEI.gs rfl rfl rfl rfl (Stp.buildSliceO Try.underlying144 ty73 (by decide) (by decide) (lkp rfl) rfl rfl rfl (by decide) (fun v118 => ?_)) rfl
      refine AE.more [56] (by decide +kernel) rfl ⟨?_, trivial⟩
      refine AEI.gs rfl rfl rfl rfl (Stp.call rfl Try.call56 (lks rfl) (fun E' le hat => sofA_ok E' _ _ (by first | exact Sl.mono (by assumption) le | exact Sl.hatI hat 0 rfl | exact Sl.hatI hat 1 rfl | exact Sl.hatI hat 2 rfl | exact Sl.hatI hat 3 rfl | exact Sl.hatI hat 4 rfl | exact Sl.hatI hat 5 rfl | exact Sl.hatI hat 6 rfl | exact Sl.hatI hat 7 rfl | exact Sl.hatI hat 8 rfl | exact Sl.hatI hat 9 rfl | exact Sl.hatI hat 10 rfl | exact Sl.hatI hat 11 rfl | exact Sl.hatI hat 12 rfl | exact Sl.hatI hat 13 rfl | exact Sl.hatI hat 14 rfl | exact Sl.hatI hat 15 rfl | exact Sl.hatW hat 0 rfl | exact Sl.hatW hat 1 rfl | exact Sl.hatW hat 2 rfl | exact Sl.hatW hat 3 rfl | exact Sl.hatW hat 4 rfl | exact Sl.hatW hat 5 rfl | exact Sl.hatW hat 6 rfl | exact Sl.hatW hat 7 rfl | exact Sl.hatW hat 8 rfl | exact Sl.hatW hat 9 rfl) (by first | exact Sl.mono (by assumption) le | exact Sl.hatI hat 0 rfl | exact Sl.hatI hat 1 rfl | exact Sl.hatI hat 2 rfl | exact Sl.hatI hat 3 rfl | exact Sl.hatI hat 4 rfl | exact Sl.hatI hat 5 rfl | exact Sl.hatI hat 6 rfl | exact Sl.hatI hat 7 rfl | exact Sl.hatI hat 8 rfl | exact Sl.hatI hat 9 rfl | exact Sl.hatI hat 10 rfl | exact Sl.hatI hat 11 rfl | exact Sl.hatI hat 12 rfl | exact Sl.hatI hat 13 rfl | exact Sl.hatI hat 14 rfl | exact Sl.hatI hat 15 rfl | exact Sl.hatW hat 0 rfl | exact Sl.hatW hat 1 rfl | exact Sl.hatW hat 2 rfl | exact Sl.hatW hat 3 rfl | exact Sl.hatW hat 4 rfl | exact Sl.hatW hat 5 rfl | exact Sl.hatW hat 6 rfl | exact Sl.hatW hat 7 rfl | exact Sl.hatW hat 8 rfl | exact Sl.hatW hat 9 rfl)) ?_) rfl
      rintro _ _ ⟨rfl, rfl⟩
      refine AE.gu 57 rfl (by decide +kernel) rfl rfl rfl (Dtu.eqS eqGuard80 (eq80 _ _) (lk rfl) (lk rfl)) rfl ?_
      refine AE.u 58 rfl (by decide +kernel) (Dtu.pickT (lk rfl) (lk rfl)) rfl ?_
      refine AE.u 59 rfl (by decide +kernel) (Dtu.asg (lk rfl)) rfl ?_
      refine AE.done (by decide +kernel) ?_
      refine Then.next ?_
      refine Body.ret ?_
      exact ⟨.inr rfl, _, pk [] rfl, ⟨by rw [hq]; rfl, rfl⟩⟩
    · refine AEI.gs rfl rfl rfl rfl (Stp.buildSliceO Try.underlying144 ty73 (by decide) (by decide) (lkp rfl) rfl rfl rfl (by decide) (fun v118 => ?_)) rfl
      refine AE.more [52] (by decide +kernel) rfl ⟨?_, trivial⟩
      refine AEI.gs rfl rfl rfl rfl (Stp.callOwn [2] rfl rfl Try.call55 (lks rfl) (fun E' le hat => info_s E' _ _) ?_) rfl
      rintro _ _ ⟨rfl, rfl⟩
      refine AE.gu 53 rfl (by decide +kernel) rfl rfl rfl (Dtu.fielda fo82_3 (lk rfl) rfl) rfl ?_
      refine AE.more [56] (by decide +kernel) rfl ⟨?_, trivial⟩
      refine AEI.gs rfl rfl rfl rfl (Stp.call rfl Try.call56 (lks rfl) (fun E' le hat => sofA_ok E' _ _ (by first | exact Sl.mono (by assumption) le | exact Sl.hatI hat 0 rfl | exact Sl.hatI hat 1 rfl | exact Sl.hatI hat 2 rfl | exact Sl.hatI hat 3 rfl | exact Sl.hatI hat 4 rfl | exact Sl.hatI hat 5 rfl | exact Sl.hatI hat 6 rfl | exact Sl.hatI hat 7 rfl | exact Sl.hatI hat 8 rfl | exact Sl.hatI hat 9 rfl | exact Sl.hatI hat 10 rfl | exact Sl.hatI hat 11 rfl | exact Sl.hatI hat 12 rfl | exact Sl.hatI hat 13 rfl | exact Sl.hatI hat 14 rfl | exact Sl.hatI hat 15 rfl | exact Sl.hatW hat 0 rfl | exact Sl.hatW hat 1 rfl | exact Sl.hatW hat 2 rfl | exact Sl.hatW hat 3 rfl | exact Sl.hatW hat 4 rfl | exact Sl.hatW hat 5 rfl | exact Sl.hatW hat 6 rfl | exact Sl.hatW hat 7 rfl | exact Sl.hatW hat 8 rfl | exact Sl.hatW hat 9 rfl) (by first | exact Sl.mono (by assumption) le | exact Sl.hatI hat 0 rfl | exact Sl.hatI hat 1 rfl | exact Sl.hatI hat 2 rfl | exact Sl.hatI hat 3 rfl | exact Sl.hatI hat 4 rfl | exact Sl.hatI hat 5 rfl | exact Sl.hatI hat 6 rfl | exact Sl.hatI hat 7 rfl | exact Sl.hatI hat 8 rfl | exact Sl.hatI hat 9 rfl | exact Sl.hatI hat 10 rfl | exact Sl.hatI hat 11 rfl | exact Sl.hatI hat 12 rfl | exact Sl.hatI hat 13 rfl | exact Sl.hatI hat 14 rfl | exact Sl.hatI hat 15 rfl | exact Sl.hatW hat 0 rfl | exact Sl.hatW hat 1 rfl | exact Sl.hatW hat 2 rfl | exact Sl.hatW hat 3 rfl | exact Sl.hatW hat 4 rfl | exact Sl.hatW hat 5 rfl | exact Sl.hatW hat 6 rfl | exact Sl.hatW hat 7 rfl | exact Sl.hatW hat 8 rfl | exact Sl.hatW hat 9 rfl)) ?_) rfl
      rintro _ _ ⟨rfl, rfl⟩
      refine AE.gu 57 rfl (by decide +kernel) rfl rfl rfl (Dtu.eqS eqGuard80 (eq80 _ _) (lk rfl) (lk rfl)) rfl ?_
      refine AE.u 58 rfl (by decide +kernel) (Dtu.pickT (lk rfl) (lk rfl)) rfl ?_
      refine AE.u 59 rfl (by decide +kernel) (Dtu.asg (lk rfl)) rfl ?_
      refine AE.done (by decide +kernel) ?_
      refine Then.next ?_
      refine Body.ret ?_
      exact ⟨.inr rfl, _, pk [] rfl, ⟨by rw [hq]; rfl, rfl⟩⟩
end Go.Proofs.Ytpmapedhigjalaa
end
