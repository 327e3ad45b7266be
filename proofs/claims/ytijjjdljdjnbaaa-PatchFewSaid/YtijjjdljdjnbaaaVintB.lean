/- What a number's bytes are read as. -/
import Derived.Test.YtijjjdljdjnbaaaVint
namespace Go.Proofs.Ytijjjdljdjnbaaa
set_option maxRecDepth 100000
set_option linter.unusedVariables false
set_option linter.unusedSimpArgs false
open Go.Sx

theorem ibit_or {k : IntKind} {x y : Int} (hx : 0 ≤ x) (hy : 0 ≤ y) (hx2 : x.toNat < 2 ^ k.bits) (hy2 : y.toNat < 2 ^ k.bits) : ibit .or k x y = k.wrap ((x.toNat ||| y.toNat : Nat) : Int) := by
  have e1 : BitVec.ofInt k.bits x = BitVec.ofNat k.bits x.toNat := by
    rw [← BitVec.ofInt_natCast, Int.toNat_of_nonneg hx]
  have e2 : BitVec.ofInt k.bits y = BitVec.ofNat k.bits y.toNat := by
    rw [← BitVec.ofInt_natCast, Int.toNat_of_nonneg hy]
  simp only [ibit, e1, e2, BitVec.toNat_or, BitVec.toNat_ofNat, Nat.mod_eq_of_lt hx2, Nat.mod_eq_of_lt hy2]
theorem or_byte {v c : Int} (hv : 0 ≤ v) (hv2 : v < 72057594037927936) (hc : 0 ≤ c) (hc2 : c < 256) : ibit .or .u64 (v * 256) c = v * 256 + c := by
  obtain ⟨n, rfl⟩ := Int.eq_ofNat_of_zero_le hv
  obtain ⟨d, rfl⟩ := Int.eq_ofNat_of_zero_le hc
  have h1 : ((n : Int) * 256).toNat = n <<< 8 := by rw [Nat.shiftLeft_eq]; omega
  have hn : n < 72057594037927936 := by omega
  rw [ibit_or (by omega) (by omega) (by simp [IntKind.bits]; omega) (by simp [IntKind.bits]; omega), h1, Int.toNat_natCast, ← Nat.shiftLeft_add_eq_or_of_lt (by omega : d < 2 ^ 8), Nat.shiftLeft_eq]
  rw [wu64 (by omega) (by omega)]
  omega
theorem and_63 : ∀ c : Fin 256, ibit .and .u8 (c.val : Int) 63 = (c.val : Int) % 64 := by decide +kernel
theorem shr_6 : ∀ c : Fin 256, (c.val : Int).fdiv (2 ^ (min (6 : Int).toNat IntKind.u8.bits)) = (((c.val / 64 : Nat)) : Int) := by decide +kernel
theorem one_shl : ∀ c : Fin 4, IntKind.i64.wrap (1 * 2 ^ (min ((c.val : Int)).toNat IntKind.i64.bits)) = ((2 ^ c.val : Nat) : Int) := by decide +kernel

theorem shl_8 {v : Int} (h0 : 0 ≤ v) (h1 : v < 72057594037927936) : IntKind.u64.wrap (v * 2 ^ (min (8 : Int).toNat IntKind.u64.bits)) = v * 256 := by
  have : (2 : Int) ^ (min (8 : Int).toNat IntKind.u64.bits) = 256 := by decide
  rw [this, wu64 (by omega) (by omega)]
/-- bytes -/
def Byt (bs : List Int) : Prop := ∀ i, i < bs.length → 0 ≤ bs[i]! ∧ bs[i]! < 256
def foldB (v : Int) (l : List Int) : Int := l.foldl (fun v c => v * 256 + c) v
theorem foldB_snoc (v : Int) (l : List Int) (c : Int) : foldB v (l ++ [c]) = foldB v l * 256 + c := by simp [foldB]
theorem take_snoc {l : List Int} {i : Nat} (h : i < l.length) : l.take (i + 1) = l.take i ++ [l[i]!] := by
  rw [List.take_succ_eq_append_getElem h, getElem!_pos l i h]
theorem pow256 {i : Nat} (h : i ≤ 6) : (64 : Int) * 256 ^ i ≤ 18014398509481984 := by
  have : i = 0 ∨ i = 1 ∨ i = 2 ∨ i = 3 ∨ i = 4 ∨ i = 5 ∨ i = 6 := by omega
  rcases this with rfl | rfl | rfl | rfl | rfl | rfl | rfl <;> decide
/-- how many bytes a beginning tells -/
def manyS (c : Int) : Nat := 2 ^ (c / 64).toNat
/-- a number, the place behind it, an error -/
def getS (bs : List Int) (p : Int) : Int × Int × Int :=
  if p < 0 ∨ (bs.length : Int) < p then (0, 0, 1)
  else if p = bs.length then (0, 0, 10)
  else if bs.length - p.toNat < manyS bs[p.toNat]! then (0, 0, 10)
  else
    let v := foldB (bs[p.toNat]! % 64) ((bs.drop (p.toNat + 1)).take (manyS bs[p.toNat]! - 1))
    if sizeS v ≠ manyS bs[p.toNat]! then (0, 0, 3) else (v, p + manyS bs[p.toNat]!, 0)

theorem get_ok (E : Env) (b : Value) (bs : List Int) (p : Int) (h : Sl E [] 1 b bs.length (bs.map (.int .u8))) (hb : Byt bs) : Does Try.prog 74 #[b, .int .i64 p] E [] fun r H' =>
    r = .tuple #[.int .u64 (getS bs p).1, .int .i64 (getS bs p).2.1, .int .i64 (getS bs p).2.2] ∧ H' = [] := by
  refine Does.pure h.len fun hlen => ?_
  refine Does.go (args := [b, .int .i64 p]) _ _ Try.func74 rfl Try.ntmps74 rfl rfl ?_
  refine Body.seq ?_
  refine Body.region ?_
  refine Ops.u (Dtu.asg (lk rfl)) rfl ?_
  refine Ops.u (Dtu.asg (lk rfl)) rfl ?_
  refine Ops.u (Dtu.asg (lk rfl)) rfl ?_
  refine Ops.nil ?_
  refine Then.next ?_
  refine Body.seq ?_
  refine Body.block ?_
  refine Body.seq ?_
  refine Body.region ?_
  refine Ops.u (Dtu.mv (lk rfl)) rfl ?_
  refine Ops.u (Dtu.lss (lk rfl) (lk rfl)) rfl ?_
  refine Ops.u (Dtu.mv (lk rfl)) rfl ?_
  refine Ops.decP 14 rfl (fun c14 => ?_) (fun c14 => ?_)
  · refine Ops.gn rfl rfl rfl rfl rfl ?_
    refine Ops.gn rfl rfl rfl rfl rfl ?_
    refine Ops.gn rfl rfl rfl rfl rfl ?_
    refine Ops.gn rfl rfl rfl rfl rfl ?_
    refine Ops.u (Dtu.pickT (lk rfl) (lk rfl)) rfl ?_
    refine Ops.u (Dtu.asg (lk rfl)) rfl ?_
    refine Ops.nil ?_
    refine Then.next ?_
    refine Body.condT (lk rfl) ?_
    refine Body.seq ?_
    refine Body.region ?_
    refine Ops.u (Dtu.asg (lk rfl)) rfl ?_
    refine Ops.u (Dtu.asg (lk rfl)) rfl ?_
    refine Ops.u (Dtu.asg (lk rfl)) rfl ?_
    refine Ops.nil ?_
    refine Then.next ?_
    refine Body.ret ?_
    refine Blk.ret ?_
    refine Then.ret ?_
    refine ⟨.inr rfl, _, pk [] rfl, ?_, rfl⟩
    unfold getS; rw [if_pos (.inl c14)]; rfl
  · refine Ops.gu rfl rfl rfl (Dtu.mv (lk rfl)) rfl ?_
    refine Ops.gu rfl rfl rfl (Dtu.mv (lk rfl)) rfl ?_
    refine Ops.gu rfl rfl rfl (Dtu.lenS Try.underlying32 (Sl.up h) (lk rfl)) rfl ?_
    refine Ops.gu rfl rfl rfl (Dtu.gtr (lk rfl) (lk rfl)) rfl ?_
    refine Ops.u (Dtu.pickF (lk rfl) (lk rfl)) rfl ?_
    refine Ops.u (Dtu.asg (lk rfl)) rfl ?_
    refine Ops.nil ?_
    refine Then.next ?_
    refine Body.condP (lk rfl) (fun c11 => ?_) (fun c11 => ?_)
    · refine Body.seq ?_
      refine Body.region ?_
      refine Ops.u (Dtu.asg (lk rfl)) rfl ?_
      refine Ops.u (Dtu.asg (lk rfl)) rfl ?_
      refine Ops.u (Dtu.asg (lk rfl)) rfl ?_
      refine Ops.nil ?_
      refine Then.next ?_
      refine Body.ret ?_
      refine Blk.ret ?_
      refine Then.ret ?_
      refine ⟨.inr rfl, _, pk [] rfl, ?_, rfl⟩
      unfold getS; rw [if_pos (.inr c11)]; rfl
    · refine Body.seq ?_
      refine Body.region ?_
      refine Ops.u (Dtu.mv (lk rfl)) rfl ?_
      refine Ops.u (Dtu.mv (lk rfl)) rfl ?_
      refine Ops.u (Dtu.lenS Try.underlying32 (Sl.up h) (lk rfl)) rfl ?_
      refine Ops.u (Dtu.eql (lk rfl) (lk rfl)) rfl ?_
      refine Ops.u (Dtu.asg (lk rfl)) rfl ?_
      refine Ops.nil ?_
      refine Then.next ?_
      refine Body.condP (lk rfl) (fun c20 => ?_) (fun c20 => ?_)
      · refine Body.seq ?_
        refine Body.region ?_
        refine Ops.u (Dtu.asg (lk rfl)) rfl ?_
        refine Ops.u (Dtu.asg (lk rfl)) rfl ?_
        refine Ops.u (Dtu.asg (lk rfl)) rfl ?_
        refine Ops.nil ?_
        refine Then.next ?_
        refine Body.ret ?_
        refine Blk.ret ?_
        refine Then.ret ?_
        refine ⟨.inr rfl, _, pk [] rfl, ?_, rfl⟩
        unfold getS; rw [if_neg (by omega), if_pos (by omega)]; rfl
      · obtain ⟨q, rfl⟩ := Int.eq_ofNat_of_zero_le (show 0 ≤ p by omega)
        have hq : q < bs.length := by omega
        obtain ⟨g0, g1⟩ := hb q hq
        obtain ⟨c, hc⟩ : ∃ c : Nat, bs[q]! = (c : Int) := ⟨_, (Int.toNat_of_nonneg g0).symm⟩
        have hc2 : c < 256 := by omega
        have hc4 : c / 64 < 4 := by omega
        have e1 : bs[q]!.fdiv (2 ^ (min (6 : Int).toNat IntKind.u8.bits)) = ((c / 64 : Nat) : Int) := by rw [hc]; exact shr_6 ⟨c, hc2⟩
        have e2 : IntKind.i64.wrap (1 * 2 ^ (min (((c / 64 : Nat) : Int)).toNat IntKind.i64.bits)) = ((2 ^ (c / 64) : Nat) : Int) := one_shl ⟨c / 64, hc4⟩
        have e3 : ibit .and .u8 bs[q]! 63 = (c : Int) % 64 := by rw [hc]; exact and_63 ⟨c, hc2⟩
        have em : manyS bs[q]! = 2 ^ (c / 64) := by unfold manyS; rw [hc]; congr 1
        have hm1 : 2 ^ (c / 64) ≤ 8 ∧ 1 ≤ 2 ^ (c / 64) := ⟨Nat.pow_le_pow_right (n := 2) (j := 3) (by omega) (by omega), Nat.one_le_two_pow⟩
        generalize hN : 2 ^ (c / 64) = N at *
        refine Body.skip ?_
        refine Blk.norm ?_
        refine Then.next ?_
        refine Body.seq ?_
        refine Body.region ?_
        refine Ops.u (Dtu.mv (lk rfl)) rfl ?_
        refine Ops.u (Dtu.mv (lk rfl)) rfl ?_
        refine Ops.u (Dtu.ix (i := (q)) Try.underlying32 Try.sizeOf5 (Sl.up h) (lk rfl) (lk rfl) (by omega) (by omega)) rfl ?_
        refine Ops.d (Det.ld Try.isAgg5 (lk rfl) (Rd.sl (Sl.up h) (gm (by omega)))) rfl ?_
        refine Ops.u (Dtu.shr (lk rfl) (lk rfl) (by first | decide | omega) (by with_reducible assumption)) rfl ?_
        refine Ops.u (Dtu.shl (lk rfl) (lk rfl) (by first | decide | omega) (by with_reducible assumption)) rfl ?_
        refine Ops.u (Dtu.asg (lk rfl)) rfl ?_
        refine Ops.nil ?_
        refine Then.next ?_
        refine Body.seq ?_
        refine Body.seq ?_
        refine Body.region ?_
        refine Ops.u (Dtu.mv (lk rfl)) rfl ?_
        refine Ops.u (Dtu.lenS Try.underlying32 (Sl.up h) (lk rfl)) rfl ?_
        refine Ops.u (Dtu.mv (lk rfl)) rfl ?_
        refine Ops.u (Dtu.sub (lk rfl) (lk rfl) (w64 (by omega) (by omega))) rfl ?_
        refine Ops.u (Dtu.mv (lk rfl)) rfl ?_
        refine Ops.u (Dtu.lss (lk rfl) (lk rfl)) rfl ?_
        refine Ops.nil ?_
        refine Then.next ?_
        refine Body.condP (lk rfl) (fun c36 => ?_) (fun c36 => ?_)
        · refine Body.seq ?_
          refine Body.region ?_
          refine Ops.u (Dtu.asg (lk rfl)) rfl ?_
          refine Ops.u (Dtu.asg (lk rfl)) rfl ?_
          refine Ops.u (Dtu.asg (lk rfl)) rfl ?_
          refine Ops.nil ?_
          refine Then.next ?_
          refine Body.ret ?_
          refine Then.ret ?_
          refine ⟨.inr rfl, _, pk [] rfl, ?_, rfl⟩
          unfold getS; rw [if_neg (by omega), if_neg (by omega), if_pos (by simp only [Int.toNat_natCast]; omega)]; rfl
        · have hs := h.subM (q + 1) (q + N) (by omega) (by omega)
          rw [show q + N - (q + 1) = N - 1 by omega] at hs
          have hyl : ((bs.drop (q + 1)).take (N - 1)).length = N - 1 := by simp; omega
          have hyb : ∀ i, i < N - 1 → 0 ≤ ((bs.drop (q + 1)).take (N - 1))[i]! ∧ ((bs.drop (q + 1)).take (N - 1))[i]! < 256 := fun i hi => by
            have := hb (q + 1 + i) (by omega)
            rw [getElem!_pos _ _ (by omega)] at this ⊢
            simpa [List.getElem_take, List.getElem_drop] using this
          have hget : getS bs (q : Int) = (let v := foldB ((c : Int) % 64) ((bs.drop (q + 1)).take (N - 1)); if sizeS v ≠ N then (0, 0, 3) else (v, (q : Int) + N, 0)) := by
            unfold getS
            rw [if_neg (by omega), if_neg (by omega), if_neg (by simp only [Int.toNat_natCast]; omega)]
            have em' := em
            rw [hc] at em'
            simp only [Int.toNat_natCast, hc, em']
          generalize hys : (bs.drop (q + 1)).take (N - 1) = ys at *
          refine Body.skip ?_
          refine Then.next ?_
          refine Body.seq ?_
          refine Body.region ?_
          refine Ops.u (Dtu.mv (lk rfl)) rfl ?_
          refine Ops.u (Dtu.mv (lk rfl)) rfl ?_
          refine Ops.u (Dtu.ix (i := (q)) Try.underlying32 Try.sizeOf5 (Sl.up h) (lk rfl) (lk rfl) (by omega) (by omega)) rfl ?_
          refine Ops.d (Det.ld Try.isAgg5 (lk rfl) (Rd.sl (Sl.up h) (gm (by omega)))) rfl ?_
          refine Ops.u (Dtu.bit rfl (lk rfl) (lk rfl) (by with_reducible assumption)) rfl ?_
          refine Ops.u (Dtu.cvt Try.underlying5 Try.underlying75 (lk rfl) (wu64 (by omega) (by omega))) rfl ?_
          refine Ops.u (Dtu.asg (lk rfl)) rfl ?_
          refine Ops.nil ?_
          refine Then.next ?_
          refine Body.seq ?_
          refine Body.seq ?_
          refine Body.region ?_
          refine Ops.u (Dtu.mv (lk rfl)) rfl ?_
          refine Ops.u (Dtu.mv (lk rfl)) rfl ?_
          refine Ops.u (Dtu.add (lk rfl) (lk rfl) (w64 (by omega) (by omega))) rfl ?_
          refine Ops.u (Dtu.mv (lk rfl)) rfl ?_
          refine Ops.u (Dtu.mv (lk rfl)) rfl ?_
          refine Ops.u (Dtu.add (lk rfl) (lk rfl) (w64 (by omega) (by omega))) rfl ?_
          refine Ops.u (Dtu.slLH (q + 1) (q + N) Try.underlying32 Try.sizeOf5 (Sl.up h) (lk rfl) (lk rfl) (lk rfl) (by omega) (by omega) (by omega) (by omega)) rfl ?_
          refine Ops.u (Dtu.lenS Try.underlying32 (Sl.up hs) (lk rfl)) rfl ?_
          refine Ops.u (Dtu.mv (lk rfl)) rfl ?_
          refine Ops.nil ?_
          refine Then.next ?_
          refine Body.block ?_
          refine Body.loopF (γ := Nat) rfl (fun i => [(51, .int .i64 i), (8, .int .u64 (foldB ((c : Int) % 64) (ys.take i)))]) (fun _ => []) (fun i => i ≤ N - 1 ∧ 0 ≤ foldB ((c : Int) % 64) (ys.take i) ∧ foldB ((c : Int) % 64) (ys.take i) < 64 * 256 ^ i) (fun i => N - 1 - i) 0
            ⟨by omega, by simp [foldB]; omega, by simp [foldB]; omega⟩ ⟨rfl, rfl, trivial⟩ rfl ?_
          rintro i u ⟨hi, hf0, hf1⟩
          refine Body.seq ?_
          refine Body.region ?_
          refine Ops.u (Dtu.lss (lk rfl) (lk rfl)) rfl ?_
          refine Ops.nil ?_
          refine Then.next ?_
          refine Body.seq ?_
          refine Body.condP (lk rfl) (fun c52 => ?_) (fun c52 => ?_)
          · have hi6 := pow256 (i := i) (by omega)
            obtain ⟨y0, y1⟩ := hyb i (by omega)
            have e4 := shl_8 hf0 (by omega)
            have e5 := or_byte hf0 (by omega) y0 y1
            refine Body.skip ?_
            refine Then.next ?_
            refine Body.seq ?_
            refine Body.block ?_
            refine Body.seq ?_
            refine Body.region ?_
            refine Ops.u (Dtu.ix (i := (i)) Try.underlying32 Try.sizeOf5 (Sl.up hs) (lk rfl) (lk rfl) (by omega) (by omega)) rfl ?_
            refine Ops.d (Det.ld Try.isAgg5 (lk rfl) (Rd.sl (Sl.up hs) (gm (by omega)))) rfl ?_
            refine Ops.u (Dtu.asg (lk rfl)) rfl ?_
            refine Ops.nil ?_
            refine Then.next ?_
            refine Body.region ?_
            refine Ops.u (Dtu.mv (lk rfl)) rfl ?_
            refine Ops.u (Dtu.shl (lk rfl) (lk rfl) (by first | decide | omega) (by with_reducible assumption)) rfl ?_
            refine Ops.u (Dtu.mv (lk rfl)) rfl ?_
            refine Ops.u (Dtu.cvt Try.underlying5 Try.underlying75 (lk rfl) (wu64 (by omega) (by omega))) rfl ?_
            refine Ops.u (Dtu.bit rfl (lk rfl) (lk rfl) (by with_reducible assumption)) rfl ?_
            refine Ops.u (Dtu.asg (lk rfl)) rfl ?_
            refine Ops.nil ?_
            refine Blk.norm ?_
            refine Then.next ?_
            refine Body.region ?_
            refine Ops.u (Dtu.add (lk rfl) (lk rfl) (w64 (by omega) (by omega))) rfl ?_
            refine Ops.u (Dtu.mv (lk rfl)) rfl ?_
            refine Ops.nil ?_
            have hsn : foldB ((c : Int) % 64) (ys.take (i + 1)) = foldB ((c : Int) % 64) (ys.take i) * 256 + ys[i]! := by rw [take_snoc (by omega), foldB_snoc]
            refine Round.goF (i + 1) rfl rfl rfl ⟨rfl, ?_, trivial⟩ rfl ⟨by omega, by omega, ?_⟩ (by omega)
            · rw [hsn]; rfl
            · rw [hsn, Int.pow_succ]; omega
          · obtain rfl : i = N - 1 := by omega
            have ht : ys.take (N - 1) = ys := List.take_of_length_le (by omega)
            rw [ht] at hf0 hf1
            simp only [ht]
            refine Body.exit ?_
            refine Then.exit ?_
            refine Round.exit ?_
            refine Blk.here ?_
            refine Then.next ?_
            refine Body.seq ?_
            refine Body.seq ?_
            refine Body.region ?_
            refine Ops.u (Dtu.mv (lk rfl)) rfl ?_
            refine Ops.s (Stp.call rfl Try.call114 (lks rfl) (fun E' le hat => size_ok E' _) ?_) rfl
            rintro _ _ ⟨rfl, rfl⟩
            refine Ops.u (Dtu.mv (lk rfl)) rfl ?_
            refine Ops.u (Dtu.neq (lk rfl) (lk rfl)) rfl ?_
            refine Ops.nil ?_
            refine Then.next ?_
            refine Body.condP (lk rfl) (fun c64 => ?_) (fun c64 => ?_)
            · refine Body.seq ?_
              refine Body.region ?_
              refine Ops.u (Dtu.asg (lk rfl)) rfl ?_
              refine Ops.u (Dtu.asg (lk rfl)) rfl ?_
              refine Ops.u (Dtu.asg (lk rfl)) rfl ?_
              refine Ops.nil ?_
              refine Then.next ?_
              refine Body.ret ?_
              refine Then.ret ?_
              refine ⟨.inr rfl, _, pk [] rfl, ?_, rfl⟩
              rw [hget]; dsimp only; rw [if_pos (by omega)]; rfl
            · refine Body.skip ?_
              refine Then.next ?_
              refine Body.seq ?_
              refine Body.region ?_
              refine Ops.u (Dtu.mv (lk rfl)) rfl ?_
              refine Ops.u (Dtu.mv (lk rfl)) rfl ?_
              refine Ops.u (Dtu.mv (lk rfl)) rfl ?_
              refine Ops.u (Dtu.add (lk rfl) (lk rfl) (w64 (by omega) (by omega))) rfl ?_
              refine Ops.u (Dtu.asg (lk rfl)) rfl ?_
              refine Ops.u (Dtu.asg (lk rfl)) rfl ?_
              refine Ops.u (Dtu.asg (lk rfl)) rfl ?_
              refine Ops.nil ?_
              refine Then.next ?_
              refine Body.ret ?_
              refine ⟨.inr rfl, _, pk [] rfl, ?_, rfl⟩
              rw [hget]; dsimp only; rw [if_neg (by omega)]; rfl
end Go.Proofs.Ytijjjdljdjnbaaa
