/- The library's functions on slices, at this seat's types. -/
import Derived.Test.YtijjjdljdjnbaaaVintB
namespace Go.Proofs.Ytijjjdljdjnbaaa
set_option maxRecDepth 100000
set_option linter.unusedVariables false
set_option linter.unusedSimpArgs false
open Go.Sx

/-- slices.Clone at one type -/
theorem cloneC_ok (E : Env) (v : Value) (m : Nat) (vs : List Value) (h : Sl E [] 4 v m vs) (h1 : vs.all (·.oneCell') = true) (hb : m * 16 ≤ 140737488355328) : Does Try.prog 99 #[v] E [] fun r H' => H' = [osl 55 4 r m vs] ∧ IsSl r := by
  refine Does.go (args := [v]) _ _ Try.func99 rfl Try.ntmps99 rfl rfl ?_
  refine Body.seq ?_
  refine Body.region ?_
  refine Ops.u (Dtu.asg (lk rfl)) rfl ?_
  refine Ops.nil ?_
  refine Then.next ?_
  refine Body.seq ?_
  refine Body.seq ?_
  refine Body.region ?_
  refine Ops.u (Dtu.mv (lk rfl)) rfl ?_
  refine Ops.u (Dtu.nilS Try.underlying22 (Sl.up h) (lk rfl)) rfl ?_
  refine Ops.nil ?_
  refine Then.next ?_
  refine Body.cond (lk rfl) (fun c4 => ?_) (fun c4 => ?_)
  · refine Body.pure (h.nil0 c4) ?_
    rintro ⟨rfl, rfl⟩
    refine Body.seq ?_
    refine Body.region ?_
    refine Ops.u (Dtu.asg (lk rfl)) rfl ?_
    refine Ops.nil ?_
    refine Then.next ?_
    refine Body.ret ?_
    refine Then.ret ?_
    exact ⟨.inr rfl, _, fun w s => osl_nil (pk [] rfl w s), rfl, ⟨_, _, _, rfl⟩⟩
  · refine Body.pure h.len ?_
    rintro ⟨hl, hm⟩
    refine Body.skip ?_
    refine Then.next ?_
    refine Body.seq ?_
    refine Body.region ?_
    refine Ops.s (Stp.buildSlice0 Try.underlying22 ty55 (fun b5 => ?_)) rfl
    refine Ops.u (Dtu.mv (lk rfl)) rfl ?_
    refine Ops.s (Stp.appendNew Try.underlying22 ty55 rfl (lk rfl) (lk rfl) h.up h1 hb hm (fun v7 => ?_)) rfl
    refine Ops.pure (Sl.isSl (Sl.osl 0 rfl)) fun hsl => ?_
    refine Ops.u (Dtu.asg (lk rfl)) rfl ?_
    refine Ops.nil ?_
    refine Then.next ?_
    refine Body.ret ?_
    exact ⟨.inr rfl, _, pk [0] rfl, rfl, hsl⟩

theorem and_mask {a : Int} (h0 : 0 ≤ a) (h1 : a < 4294967296) : ibit .and .u64 a 4294967295 = a := by
  obtain ⟨n, rfl⟩ := Int.eq_ofNat_of_zero_le h0
  have e1 : BitVec.ofInt IntKind.u64.bits (n : Int) = BitVec.ofNat IntKind.u64.bits n := by rw [← BitVec.ofInt_natCast]
  have e2 : BitVec.ofInt IntKind.u64.bits (4294967295 : Int) = BitVec.ofNat IntKind.u64.bits 4294967295 := rfl
  simp only [ibit, e1, e2, BitVec.toNat_and, BitVec.toNat_ofNat]
  rw [Nat.mod_eq_of_lt (by simp [IntKind.bits]; omega), Nat.mod_eq_of_lt (by simp [IntKind.bits])]
  have : (4294967295 : Nat) = 2 ^ 32 - 1 := by decide
  rw [this, Nat.and_two_pow_sub_one_eq_mod, Nat.mod_eq_of_lt (by omega)]
  exact wu64 (by omega) (by omega)
theorem shr_32 {a : Int} (h0 : 0 ≤ a) : a.fdiv (2 ^ (min (32 : Int).toNat IntKind.u64.bits)) = a / 4294967296 := by
  have : (2 : Int) ^ (min (32 : Int).toNat IntKind.u64.bits) = 4294967296 := by decide
  rw [this, Int.fdiv_eq_ediv_of_nonneg _ (by omega)]
theorem mul64_ok (E : Env) (x y : Int) (hx : 0 ≤ x ∧ x < 4294967296) (hy : 0 ≤ y ∧ y < 4294967296) : Does Try.prog 134 #[.int .u64 x, .int .u64 y] E [] fun r H' => r = .tuple #[.int .u64 0, .int .u64 (x * y)] ∧ H' = [] := by
  have hxy : 0 ≤ x * y := Int.mul_nonneg hx.1 hy.1
  have hxy2 : x * y < 18446744073709551616 := by
    have : x * y ≤ 4294967295 * 4294967295 := Int.mul_le_mul (by omega) (by omega) hy.1 (by omega)
    omega
  have a1 := and_mask hx.1 hx.2
  have a2 := and_mask hy.1 hy.2
  have s1 : x.fdiv (2 ^ (min (32 : Int).toNat IntKind.u64.bits)) = 0 := by rw [shr_32 hx.1]; omega
  have s2 : y.fdiv (2 ^ (min (32 : Int).toNat IntKind.u64.bits)) = 0 := by rw [shr_32 hy.1]; omega
  have m1 := wu64 hxy (by omega)
  have z1 : IntKind.u64.wrap (0 * y) = 0 := by rw [Int.zero_mul]; rfl
  have z2 : IntKind.u64.wrap (x * 0) = 0 := by rw [Int.mul_zero]; rfl
  have z3 : IntKind.u64.wrap (0 * 0) = 0 := rfl
  have s3 : (x * y).fdiv (2 ^ (min (32 : Int).toNat IntKind.u64.bits)) = x * y / 4294967296 := shr_32 hxy
  have z4 : IntKind.u64.wrap (0 + x * y / 4294967296) = x * y / 4294967296 := by rw [Int.zero_add]; exact wu64 (by omega) (by omega)
  have a3 := and_mask (a := x * y / 4294967296) (by omega) (by omega)
  have s4 : (x * y / 4294967296).fdiv (2 ^ (min (32 : Int).toNat IntKind.u64.bits)) = 0 := by rw [shr_32 (by omega)]; omega
  have z5 : IntKind.u64.wrap (x * y / 4294967296 + 0) = x * y / 4294967296 := by rw [Int.add_zero]; exact wu64 (by omega) (by omega)
  have z6 : IntKind.u64.wrap (0 + 0) = 0 := rfl
  refine Does.go (args := [.int .u64 x, .int .u64 y]) _ _ Try.func134 rfl Try.ntmps134 rfl rfl ?_
  refine Body.seq ?_
  refine Body.region ?_
  refine Ops.u (Dtu.asg (lk rfl)) rfl ?_
  refine Ops.u (Dtu.asg (lk rfl)) rfl ?_
  refine Ops.nil ?_
  refine Then.next ?_
  refine Body.seq ?_
  refine Body.region ?_
  refine Ops.u (Dtu.mv (lk rfl)) rfl ?_
  refine Ops.u (Dtu.bit rfl (lk rfl) (lk rfl) (by with_reducible assumption)) rfl ?_
  refine Ops.u (Dtu.asg (lk rfl)) rfl ?_
  refine Ops.nil ?_
  refine Then.next ?_
  refine Body.seq ?_
  refine Body.region ?_
  refine Ops.u (Dtu.mv (lk rfl)) rfl ?_
  refine Ops.u (Dtu.shr (lk rfl) (lk rfl) (by first | decide | omega) (by with_reducible assumption)) rfl ?_
  refine Ops.u (Dtu.asg (lk rfl)) rfl ?_
  refine Ops.nil ?_
  refine Then.next ?_
  refine Body.seq ?_
  refine Body.region ?_
  refine Ops.u (Dtu.mv (lk rfl)) rfl ?_
  refine Ops.u (Dtu.bit rfl (lk rfl) (lk rfl) (by with_reducible assumption)) rfl ?_
  refine Ops.u (Dtu.asg (lk rfl)) rfl ?_
  refine Ops.nil ?_
  refine Then.next ?_
  refine Body.seq ?_
  refine Body.region ?_
  refine Ops.u (Dtu.mv (lk rfl)) rfl ?_
  refine Ops.u (Dtu.shr (lk rfl) (lk rfl) (by first | decide | omega) (by with_reducible assumption)) rfl ?_
  refine Ops.u (Dtu.asg (lk rfl)) rfl ?_
  refine Ops.nil ?_
  refine Then.next ?_
  refine Body.seq ?_
  refine Body.region ?_
  refine Ops.u (Dtu.mv (lk rfl)) rfl ?_
  refine Ops.u (Dtu.mv (lk rfl)) rfl ?_
  refine Ops.u (Dtu.mul (lk rfl) (lk rfl) (by with_reducible assumption)) rfl ?_
  refine Ops.u (Dtu.asg (lk rfl)) rfl ?_
  refine Ops.nil ?_
  refine Then.next ?_
  refine Body.seq ?_
  refine Body.region ?_
  refine Ops.u (Dtu.mv (lk rfl)) rfl ?_
  refine Ops.u (Dtu.mv (lk rfl)) rfl ?_
  refine Ops.u (Dtu.mul (lk rfl) (lk rfl) (by with_reducible assumption)) rfl ?_
  refine Ops.u (Dtu.mv (lk rfl)) rfl ?_
  refine Ops.u (Dtu.shr (lk rfl) (lk rfl) (by first | decide | omega) (by with_reducible assumption)) rfl ?_
  refine Ops.u (Dtu.add (lk rfl) (lk rfl) (by with_reducible assumption)) rfl ?_
  refine Ops.u (Dtu.asg (lk rfl)) rfl ?_
  refine Ops.nil ?_
  refine Then.next ?_
  refine Body.seq ?_
  refine Body.region ?_
  refine Ops.u (Dtu.mv (lk rfl)) rfl ?_
  refine Ops.u (Dtu.bit rfl (lk rfl) (lk rfl) (by with_reducible assumption)) rfl ?_
  refine Ops.u (Dtu.asg (lk rfl)) rfl ?_
  refine Ops.nil ?_
  refine Then.next ?_
  refine Body.seq ?_
  refine Body.region ?_
  refine Ops.u (Dtu.mv (lk rfl)) rfl ?_
  refine Ops.u (Dtu.shr (lk rfl) (lk rfl) (by first | decide | omega) (by with_reducible assumption)) rfl ?_
  refine Ops.u (Dtu.asg (lk rfl)) rfl ?_
  refine Ops.nil ?_
  refine Then.next ?_
  refine Body.seq ?_
  refine Body.region ?_
  refine Ops.u (Dtu.mv (lk rfl)) rfl ?_
  refine Ops.u (Dtu.mv (lk rfl)) rfl ?_
  refine Ops.u (Dtu.mv (lk rfl)) rfl ?_
  refine Ops.u (Dtu.mul (lk rfl) (lk rfl) (by with_reducible assumption)) rfl ?_
  refine Ops.u (Dtu.add (lk rfl) (lk rfl) (by with_reducible assumption)) rfl ?_
  refine Ops.u (Dtu.asg (lk rfl)) rfl ?_
  refine Ops.nil ?_
  refine Then.next ?_
  refine Body.seq ?_
  refine Body.region ?_
  refine Ops.u (Dtu.mv (lk rfl)) rfl ?_
  refine Ops.u (Dtu.mv (lk rfl)) rfl ?_
  refine Ops.u (Dtu.mul (lk rfl) (lk rfl) (by with_reducible assumption)) rfl ?_
  refine Ops.u (Dtu.mv (lk rfl)) rfl ?_
  refine Ops.u (Dtu.add (lk rfl) (lk rfl) (by with_reducible assumption)) rfl ?_
  refine Ops.u (Dtu.mv (lk rfl)) rfl ?_
  refine Ops.u (Dtu.shr (lk rfl) (lk rfl) (by first | decide | omega) (by with_reducible assumption)) rfl ?_
  refine Ops.u (Dtu.add (lk rfl) (lk rfl) (by with_reducible assumption)) rfl ?_
  refine Ops.u (Dtu.asg (lk rfl)) rfl ?_
  refine Ops.nil ?_
  refine Then.next ?_
  refine Body.seq ?_
  refine Body.region ?_
  refine Ops.u (Dtu.mv (lk rfl)) rfl ?_
  refine Ops.u (Dtu.mv (lk rfl)) rfl ?_
  refine Ops.u (Dtu.mul (lk rfl) (lk rfl) (by with_reducible assumption)) rfl ?_
  refine Ops.u (Dtu.asg (lk rfl)) rfl ?_
  refine Ops.nil ?_
  refine Then.next ?_
  refine Body.ret ?_
  exact ⟨.inr rfl, _, pk [] rfl, rfl, rfl⟩
theorem mul_ok (E : Env) (x y : Int) (hx : 0 ≤ x ∧ x < 4294967296) (hy : 0 ≤ y ∧ y < 4294967296) : Does Try.prog 116 #[.int .u64 x, .int .u64 y] E [] fun r H' => r = .tuple #[.int .u64 0, .int .u64 (x * y)] ∧ H' = [] := by
  have hxy : 0 ≤ x * y := Int.mul_nonneg hx.1 hy.1
  have hxy2 : x * y < 18446744073709551616 := by
    have : x * y ≤ 4294967295 * 4294967295 := Int.mul_le_mul (by omega) (by omega) hy.1 (by omega)
    omega
  refine Does.go (args := [.int .u64 x, .int .u64 y]) _ _ Try.func116 rfl Try.ntmps116 rfl rfl ?_
  refine Body.seq ?_
  refine Body.region ?_
  refine Ops.u (Dtu.asg (lk rfl)) rfl ?_
  refine Ops.u (Dtu.asg (lk rfl)) rfl ?_
  refine Ops.nil ?_
  refine Then.next ?_
  refine Body.seq ?_
  refine Body.condF (lk rfl) ?_
  refine Body.skip ?_
  refine Then.next ?_
  refine Body.seq ?_
  refine Body.region ?_
  refine Ops.u (Dtu.mv (lk rfl)) rfl ?_
  refine Ops.u (Dtu.mv (lk rfl)) rfl ?_
  refine Ops.s (Stp.call rfl Try.call134 (lks rfl) (fun E' le hat => mul64_ok E' _ _ hx hy) ?_) rfl
  rintro _ _ ⟨rfl, rfl⟩
  refine Ops.u (Dtu.mv (lk rfl)) rfl ?_
  refine Ops.u (Dtu.ext (lk rfl) rfl) rfl ?_
  refine Ops.u (Dtu.ext (lk rfl) rfl) rfl ?_
  refine Ops.u (Dtu.asg (lk rfl)) rfl ?_
  refine Ops.u (Dtu.asg (lk rfl)) rfl ?_
  refine Ops.nil ?_
  refine Then.next ?_
  refine Body.seq ?_
  refine Body.region ?_
  refine Ops.u (Dtu.mv (lk rfl)) rfl ?_
  refine Ops.u (Dtu.mv (lk rfl)) rfl ?_
  refine Ops.u (Dtu.asg (lk rfl)) rfl ?_
  refine Ops.u (Dtu.asg (lk rfl)) rfl ?_
  refine Ops.nil ?_
  refine Then.next ?_
  refine Body.ret ?_
  exact ⟨.inr rfl, _, pk [] rfl, rfl, rfl⟩

/-- slices.Repeat of one element -/
def repeatCB (c : List Value) : Bool → List Value
  | true => c
  | false => [.int .i32 0, .int .u8 0, .int .u32 0, .int .u32 0]
theorem repeatC_mix (n k : Nat) (hn : n ≤ k) : (List.replicate n true ++ List.replicate (k - n) false).take n ++ (((List.replicate n true ++ List.replicate (k - n) false).drop 0).take (n - 0)).take (Nat.min (n - 0) (k - n)) ++ (List.replicate n true ++ List.replicate (k - n) false).drop (n + Nat.min (n - 0) (k - n)) =
    List.replicate (n + Nat.min n (k - n)) true ++ List.replicate (k - (n + Nat.min n (k - n))) false := by
  have hm : Nat.min n (k - n) ≤ n := Nat.min_le_left _ _
  have hm2 : Nat.min n (k - n) ≤ k - n := Nat.min_le_right _ _
  simp only [Nat.sub_zero, List.drop_zero]
  generalize Nat.min n (k - n) = q at *
  rw [List.take_append_of_le_length (by simp), List.take_of_length_le (by simp), List.take_replicate, Nat.min_eq_left hm, List.drop_append]
  simp only [List.length_replicate, List.drop_replicate]
  rw [show n - (n + q) = 0 by omega, show n + q - n = q by omega, List.replicate_zero, List.nil_append, List.replicate_append_replicate, show k - n - q = k - (n + q) by omega]
theorem repeatC_ok (E : Env) (v : Value) (c : List Value) (k : Nat) (h : Sl E [] 4 v 1 c) (h1 : c.all (·.oneCell') = true) (hk : k < 4294967296) : Does Try.prog 75 #[v, .int .i64 k] E [] fun r H' => H' = [osl 55 4 r k (List.replicate k c).flatten] ∧ IsSl r := by
  refine Does.pure h.len fun hlen => ?_
  have hB : ∀ b, (repeatCB c b).length = 4 := fun b => by cases b <;> simp [repeatCB, hlen.1]
  have hB1 : ∀ b, (repeatCB c b).all (·.oneCell') = true := fun b => match b with
    | true => h1
    | false => rfl
  have h' : Sl E [] 4 v 1 ([true].flatMap (repeatCB c)) := by simpa [repeatCB] using h
  refine Does.go (args := [v, .int .i64 k]) _ _ Try.func75 rfl Try.ntmps75 rfl rfl ?_
  refine Body.seq ?_
  refine Body.region ?_
  refine Ops.u (Dtu.asg (lk rfl)) rfl ?_
  refine Ops.nil ?_
  refine Then.next ?_
  refine Body.seq ?_
  refine Body.seq ?_
  refine Body.region ?_
  refine Ops.u (Dtu.mv (lk rfl)) rfl ?_
  refine Ops.u (Dtu.lss (lk rfl) (lk rfl)) rfl ?_
  refine Ops.nil ?_
  refine Then.next ?_
  refine Body.condP (lk rfl) (fun hy => absurd hy (by first | omega | assumption | decide)) (fun _ => ?_)
  refine Body.skip ?_
  refine Then.next ?_
  refine Body.seq ?_
  refine Body.region ?_
  refine Ops.u (Dtu.mv (lk rfl)) rfl ?_
  refine Ops.u (Dtu.lenS Try.underlying22 (Sl.up h) (lk rfl)) rfl ?_
  refine Ops.u (Dtu.cvt Try.underlying3 Try.underlying180 (lk rfl) (wu64 (by omega) (by omega))) rfl ?_
  refine Ops.u (Dtu.mv (lk rfl)) rfl ?_
  refine Ops.u (Dtu.cvt Try.underlying3 Try.underlying180 (lk rfl) (wu64 (by omega) (by omega))) rfl ?_
  refine Ops.s (Stp.call rfl Try.call116 (lks rfl) (fun E' le hat => (mul_ok E' (↑(1 : Nat)) k (by omega) (by omega)).mono (fun r H' q => by rw [show (↑(1 : Nat) : Int) * (k : Int) = k by omega] at q; exact q)) ?_) rfl
  rintro _ _ ⟨rfl, rfl⟩
  refine Ops.u (Dtu.mv (lk rfl)) rfl ?_
  refine Ops.u (Dtu.ext (lk rfl) rfl) rfl ?_
  refine Ops.u (Dtu.ext (lk rfl) rfl) rfl ?_
  refine Ops.u (Dtu.asg (lk rfl)) rfl ?_
  refine Ops.u (Dtu.asg (lk rfl)) rfl ?_
  refine Ops.nil ?_
  refine Then.next ?_
  refine Body.seq ?_
  refine Body.seq ?_
  refine Body.region ?_
  refine Ops.u (Dtu.mv (lk rfl)) rfl ?_
  refine Ops.u (Dtu.gtr (lk rfl) (lk rfl)) rfl ?_
  refine Ops.u (Dtu.mv (lk rfl)) rfl ?_
  refine Ops.decP 23 rfl (fun hy => absurd hy (by first | omega | assumption | decide)) (fun _ => ?_)
  refine Ops.gu rfl rfl rfl (Dtu.mv (lk rfl)) rfl ?_
  refine Ops.gu rfl rfl rfl (Dtu.gtr (lk rfl) (lk rfl)) rfl ?_
  refine Ops.u (Dtu.pickF (lk rfl) (lk rfl)) rfl ?_
  refine Ops.nil ?_
  refine Then.next ?_
  refine Body.condP (lk rfl) (fun hy => absurd hy (by first | omega | assumption | decide)) (fun _ => ?_)
  refine Body.skip ?_
  refine Then.next ?_
  refine Body.seq ?_
  refine Body.region ?_
  refine Ops.u (Dtu.mv (lk rfl)) rfl ?_
  refine Ops.u (Dtu.cvt Try.underlying180 Try.underlying3 (lk rfl) (w64 (by omega) (by omega))) rfl ?_
  refine Ops.s (Stp.make (m := (k)) Try.underlying22 ty55 rfl (lk rfl) (lk rfl) (by omega) (by omega) (by omega) (fun v30 => ?_)) rfl
  refine Ops.u (Dtu.asg (lk rfl)) rfl ?_
  refine Ops.nil ?_
  refine Then.next ?_
  refine Body.seq ?_
  refine Body.region ?_
  refine Ops.u (Dtu.mv (lk rfl)) rfl ?_
  refine Ops.u (Dtu.mv (lk rfl)) rfl ?_
  rw [show (List.replicate k [.int .i32 0, .int .u8 0, .int .u32 0, .int .u32 0]).flatten = (List.replicate k false).flatMap (repeatCB c) from rep_flat (enc := repeatCB c) false k]
  refine Ops.s (Stp.copyF 0 hB Try.underlying22 Try.sizeOf55 rfl (lk rfl) (LiesIn.whole (Sl.osl 0 rfl)) (by omega) (lk rfl) h'.up hB1 rfl ?_) rfl
  refine Ops.u (Dtu.asg (lk rfl)) rfl ?_
  refine Ops.nil ?_
  refine Then.next ?_
  refine Body.seq ?_
  refine Body.block ?_
  refine Body.loopF (γ := Nat) rfl (fun n => [(8, .int .i64 n)]) (fun n => [osl 55 4 v30 k ((List.replicate n true ++ List.replicate (k - n) false).flatMap (repeatCB c))]) (fun n => n ≤ k ∧ (k = 0 ∨ 1 ≤ n)) (fun n => k - n) (Nat.min 1 k) ?_ ⟨rfl, trivial⟩ ?_ ?_
  · have := Nat.min_le_right 1 k
    refine ⟨this, ?_⟩
    by_cases hk0 : k = 0
    · exact .inl hk0
    · exact .inr (Nat.le_min.2 ⟨Nat.le_refl _, by omega⟩)
  · congr 2
    by_cases hk0 : k = 0
    · subst hk0; rfl
    · have : Nat.min 1 k = 1 := Nat.min_eq_left (by omega)
      rw [this]; simp
  · rintro n u ⟨hn, hn1⟩
    have hs := Sl.subF hB (E := E) (H := [osl 55 4 v30 k ((List.replicate n true ++ List.replicate (k - n) false).flatMap (repeatCB c))]) (Sl.osl 0 rfl) 0 n (by omega) (by omega)
    refine Body.seq ?_
    refine Body.seq ?_
    refine Body.region ?_
    refine Ops.u (Dtu.mv (lk rfl)) rfl ?_
    refine Ops.u (Dtu.mv (lk rfl)) rfl ?_
    refine Ops.u (Dtu.lenS Try.underlying22 (Sl.osl 0 rfl) (lk rfl)) rfl ?_
    refine Ops.u (Dtu.lss (lk rfl) (lk rfl)) rfl ?_
    refine Ops.nil ?_
    refine Then.next ?_
    refine Body.condP (lk rfl) (fun c37 => ?_) (fun c37 => ?_)
    · refine Body.skip ?_
      refine Then.next ?_
      refine Body.block ?_
      refine Body.draw mixed ?_
      refine AB.u 0 rfl (by decide +kernel) (Dtu.mv (lk rfl)) rfl ?_
      refine AB.u 1 rfl (by decide +kernel) (Dtu.mv (lk rfl)) rfl ?_
      refine AB.u 2 rfl (by decide +kernel) (Dtu.mv (lk rfl)) rfl ?_
      refine AB.u 3 rfl (by decide +kernel) (Dtu.slL (n) Try.underlying22 Try.sizeOf55 (Sl.osl 0 rfl) (lk rfl) (lk rfl) (by omega) (by omega)) rfl ?_
      refine AB.u 4 rfl (by decide +kernel) (Dtu.mv (lk rfl)) rfl ?_
      refine AB.u 5 rfl (by decide +kernel) (Dtu.mv (lk rfl)) rfl ?_
      refine AB.u 6 rfl (by decide +kernel) (Dtu.slH (n) Try.underlying22 Try.sizeOf55 (Sl.osl 0 rfl) (lk rfl) (lk rfl) (by omega) (by omega)) rfl ?_
      refine AB.s 7 rfl (by decide +kernel) (by decide +kernel) (Stp.copyF 0 hB Try.underlying22 Try.sizeOf55 rfl (lk rfl) (LiesIn.sub' (Sl.osl 0 rfl) (by omega) (by omega)) (by omega) (lk rfl) hs hB1 rfl ?_) rfl
      have hm : Nat.min (n - 0) (k - n) ≤ k - n := Nat.min_le_right _ _
      have hm2 : 1 ≤ Nat.min (n - 0) (k - n) := Nat.le_min.2 ⟨by omega, by omega⟩
      rw [repeatC_mix n k hn]
      rw [Nat.sub_zero] at *
      generalize Nat.min n (k - n) = q at *
      refine AB.u 8 rfl (by decide +kernel) (Dtu.add (lk rfl) (lk rfl) (w64 (by omega) (by omega))) rfl ?_
      refine AB.u 9 rfl (by decide +kernel) (Dtu.asg (lk rfl)) rfl ?_
      refine AB.done (by decide +kernel) ?_
      refine Blk.norm ?_
      exact Round.goF (n + q) rfl rfl rfl ⟨int_eq (by omega), trivial⟩ rfl ⟨by omega, by omega⟩ (by omega)
    · obtain rfl : n = k := by omega
      refine Body.pure (Sl.isSl (Sl.osl 0 rfl)) fun hsl => ?_
      refine Body.exit ?_
      refine Then.exit ?_
      refine Round.exit ?_
      refine Blk.here ?_
      refine Then.next ?_
      refine Body.seq ?_
      refine Body.region ?_
      refine Ops.u (Dtu.mv (lk rfl)) rfl ?_
      refine Ops.u (Dtu.asg (lk rfl)) rfl ?_
      refine Ops.nil ?_
      refine Then.next ?_
      refine Body.ret ?_
      refine ⟨.inr rfl, _, pk [0] rfl, ?_, hsl⟩
      rw [Nat.sub_self, List.replicate_zero, List.append_nil, ← rep_flat]; rfl

end Go.Proofs.Ytijjjdljdjnbaaa
