/- What single operations do: numbers, Bools, frames; then memory. -/
import Derived.Test.YtijjjdljdjnbaaaSx2
namespace Go.Sx
open Go

/-! ### wraps -/
theorem w64 {n : Int} (h1 : -9223372036854775808 ≤ n) (h2 : n ≤ 9223372036854775807) : IntKind.i64.wrap n = n := by
  rw [IntWalk.i64_left]; exact IntWalk.wrap64_in n ⟨h1, h2⟩
theorem wu8 {n : Int} (h1 : 0 ≤ n) (h2 : n ≤ 255) : IntKind.u8.wrap n = n := by
  simp only [IntKind.wrap, IntKind.bits, IntKind.signed]; simp; omega
theorem wu16 {n : Int} (h1 : 0 ≤ n) (h2 : n ≤ 65535) : IntKind.u16.wrap n = n := by
  simp only [IntKind.wrap, IntKind.bits, IntKind.signed]; simp; omega
theorem wu32 {n : Int} (h1 : 0 ≤ n) (h2 : n ≤ 4294967295) : IntKind.u32.wrap n = n := by
  simp only [IntKind.wrap, IntKind.bits, IntKind.signed]; simp; omega
theorem wu64 {n : Int} (h1 : 0 ≤ n) (h2 : n ≤ 18446744073709551615) : IntKind.u64.wrap n = n := by
  simp only [IntKind.wrap, IntKind.bits, IntKind.signed]; simp; omega
theorem w32 {n : Int} (h1 : -2147483648 ≤ n) (h2 : n ≤ 2147483647) : IntKind.i32.wrap n = n := by
  simp only [IntKind.wrap, IntKind.bits, IntKind.signed]; simp; omega
def ibit (op : BinOp) (k : IntKind) (x y : Int) : Int :=
  let a := BitVec.ofInt k.bits x
  let b := BitVec.ofInt k.bits y
  match op with
  | .and => k.wrap (a &&& b).toNat
  | .or => k.wrap (a ||| b).toNat
  | .xor => k.wrap (a ^^^ b).toNat
  | .andNot => k.wrap (a &&& ~~~b).toNat
  | _ => 0

theorem run_v (P : Program) (x : Sem Value) (w : World) : (do pure (Next.value (← x)) : Sem Next).run P w = (x.run P w).andThen fun v w' => .ok (.value v) w' := by
  rw [Sem.run_bind]; rfl
theorem run_u (P : Program) (x : Sem Unit) (w : World) : (do x; pure Next.skip : Sem Next).run P w = (x.run P w).andThen fun _ w' => .ok .skip w' := by
  rw [Sem.run_bind]; rfl

section
variable {P : Program} {n : Nat} {f : Fr} {E : Env} {H : List HProp} {d : Option Nat} {ty : TypeId} {pos : String} {aft : Array Edge} {g : Option (Nat × Bool)} {x y z : Operand}
theorem Dtu.mv {v : Value} (hx : ev f x = v) : Dtu P n f E H ⟨d, .move x, ty, pos, aft, g⟩ v := fun w0 s w a r => by
  simp only [execOp, r.eval, hx, Sem.run_pure]
theorem Dtu.asg {v : Value} (hx : ev f x = v) : Dtu P n f E H ⟨d, .assign x, ty, pos, aft, g⟩ v := fun w0 s w a r => by
  simp only [execOp, r.eval, hx, Sem.run_pure]
theorem Dtu.pick {t : Bool} {p q : Value} (hx : ev f x = .bool t) (hy : ev f y = p) (hz : ev f z = q) : Dtu P n f E H ⟨d, .pick x y z, ty, pos, aft, g⟩ (bif t then p else q) := fun w0 s w a r => by
  simp only [execOp, r.eval, hx, hy, hz, asBool, Sem.run_bind, Sem.run_pure, Result.andThen_ok]
  cases t <;> rfl
theorem Dtu.pickT {p : Value} (hx : ev f x = .bool true) (hy : ev f y = p) : Dtu P n f E H ⟨d, .pick x y z, ty, pos, aft, g⟩ p := Dtu.pick hx hy rfl
theorem Dtu.pickF {q : Value} (hx : ev f x = .bool false) (hz : ev f z = q) : Dtu P n f E H ⟨d, .pick x y z, ty, pos, aft, g⟩ q := Dtu.pick hx rfl hz
theorem Dtu.or {p q : Bool} (hx : ev f x = .bool p) (hy : ev f y = .bool true) (hz : ev f z = .bool q) : Dtu P n f E H ⟨d, .pick x y z, ty, pos, aft, g⟩ (.bool (p || q)) := by
  have := Dtu.pick (P := P) (n := n) (E := E) (H := H) (d := d) (ty := ty) (pos := pos) (aft := aft) (g := g) hx hy hz
  cases p <;> exact this
theorem Dtu.and {p q : Bool} (hx : ev f x = .bool p) (hy : ev f y = .bool q) (hz : ev f z = .bool false) : Dtu P n f E H ⟨d, .pick x y z, ty, pos, aft, g⟩ (.bool (p && q)) := by
  have := Dtu.pick (P := P) (n := n) (E := E) (H := H) (d := d) (ty := ty) (pos := pos) (aft := aft) (g := g) hx hy hz
  cases p <;> exact this

theorem Dtu.bin {op : BinOp} {t t' : TypeId} {k k' : IntKind} {a b : Int} {v : Value} (hx : ev f x = .int k a) (hy : ev f y = .int k' b)
    (h : ∀ w, (binOp op t (.int k a) (.int k' b)).run P w = .ok v w) : Dtu P n f E H ⟨d, .binOp op t x y t', ty, pos, aft, g⟩ v := fun w0 s w a' r => by
  have e : ∀ w, (eqGuard op t x y (.int k a) (.int k' b)).run P w = .ok () w := fun w => by
    unfold eqGuard; cases op <;> rfl
  simp only [execOp, r.eval, hx, hy, Sem.run_bind, e, Result.andThen_ok, h, Sem.run_pure]
theorem Dtu.add {t t' : TypeId} {k : IntKind} {a b c : Int} (hx : ev f x = .int k a) (hy : ev f y = .int k b) (h : k.wrap (a + b) = c) : Dtu P n f E H ⟨d, .binOp .add t x y t', ty, pos, aft, g⟩ (.int k c) :=
  Dtu.bin hx hy fun w => by subst h; simp [binOp, Op.intArith]
theorem Dtu.sub {t t' : TypeId} {k : IntKind} {a b c : Int} (hx : ev f x = .int k a) (hy : ev f y = .int k b) (h : k.wrap (a - b) = c) : Dtu P n f E H ⟨d, .binOp .sub t x y t', ty, pos, aft, g⟩ (.int k c) :=
  Dtu.bin hx hy fun w => by subst h; simp [binOp, Op.intArith]
theorem Dtu.mul {t t' : TypeId} {k : IntKind} {a b c : Int} (hx : ev f x = .int k a) (hy : ev f y = .int k b) (h : k.wrap (a * b) = c) : Dtu P n f E H ⟨d, .binOp .mul t x y t', ty, pos, aft, g⟩ (.int k c) :=
  Dtu.bin hx hy fun w => by subst h; simp [binOp, Op.intArith]
theorem Dtu.quo {t t' : TypeId} {k : IntKind} {a b c : Int} (hx : ev f x = .int k a) (hy : ev f y = .int k b) (h0 : b ≠ 0) (h : k.wrap (a.tdiv b) = c) : Dtu P n f E H ⟨d, .binOp .quo t x y t', ty, pos, aft, g⟩ (.int k c) :=
  Dtu.bin hx hy fun w => by subst h; simp [binOp, Op.intDiv, h0]
theorem Dtu.rem {t t' : TypeId} {k : IntKind} {a b c : Int} (hx : ev f x = .int k a) (hy : ev f y = .int k b) (h0 : b ≠ 0) (h : a.tmod b = c) : Dtu P n f E H ⟨d, .binOp .rem t x y t', ty, pos, aft, g⟩ (.int k c) :=
  Dtu.bin hx hy fun w => by subst h; simp [binOp, Op.intDiv, h0]
theorem Dtu.shl {t t' : TypeId} {k k' : IntKind} {a b c : Int} (hx : ev f x = .int k a) (hy : ev f y = .int k' b) (h0 : 0 ≤ b) (h : k.wrap (a * 2 ^ (min b.toNat k.bits)) = c) : Dtu P n f E H ⟨d, .binOp .shl t x y t', ty, pos, aft, g⟩ (.int k c) :=
  Dtu.bin hx hy fun w => by subst h; simp [binOp, Op.shift, show ¬ b < 0 by omega]
theorem Dtu.shr {t t' : TypeId} {k k' : IntKind} {a b c : Int} (hx : ev f x = .int k a) (hy : ev f y = .int k' b) (h0 : 0 ≤ b) (h : a.fdiv (2 ^ (min b.toNat k.bits)) = c) : Dtu P n f E H ⟨d, .binOp .shr t x y t', ty, pos, aft, g⟩ (.int k c) :=
  Dtu.bin hx hy fun w => by subst h; simp [binOp, Op.shift, show ¬ b < 0 by omega]
theorem Dtu.bit {op : BinOp} {t t' : TypeId} {k : IntKind} {a b c : Int} (hop : (match op with | .and | .or | .xor | .andNot => true | _ => false) = true) (hx : ev f x = .int k a) (hy : ev f y = .int k b) (h : ibit op k a b = c) :
    Dtu P n f E H ⟨d, .binOp op t x y t', ty, pos, aft, g⟩ (.int k c) :=
  Dtu.bin hx hy fun w => by subst h; cases op <;> simp at hop <;> simp [binOp, Op.intBits, ibit]
theorem Dtu.lss {t t' : TypeId} {k : IntKind} {a b : Int} (hx : ev f x = .int k a) (hy : ev f y = .int k b) : Dtu P n f E H ⟨d, .binOp .lss t x y t', ty, pos, aft, g⟩ (.bool (decide (a < b))) :=
  Dtu.bin hx hy fun w => by simp [binOp, Op.intCmp]
theorem Dtu.leq {t t' : TypeId} {k : IntKind} {a b : Int} (hx : ev f x = .int k a) (hy : ev f y = .int k b) : Dtu P n f E H ⟨d, .binOp .leq t x y t', ty, pos, aft, g⟩ (.bool (decide (a ≤ b))) :=
  Dtu.bin hx hy fun w => by simp [binOp, Op.intCmp]
theorem Dtu.gtr {t t' : TypeId} {k : IntKind} {a b : Int} (hx : ev f x = .int k a) (hy : ev f y = .int k b) : Dtu P n f E H ⟨d, .binOp .gtr t x y t', ty, pos, aft, g⟩ (.bool (decide (b < a))) :=
  Dtu.bin hx hy fun w => by simp [binOp, Op.intCmp]
theorem Dtu.geq {t t' : TypeId} {k : IntKind} {a b : Int} (hx : ev f x = .int k a) (hy : ev f y = .int k b) : Dtu P n f E H ⟨d, .binOp .geq t x y t', ty, pos, aft, g⟩ (.bool (decide (b ≤ a))) :=
  Dtu.bin hx hy fun w => by simp [binOp, Op.intCmp]
theorem Dtu.eql {t t' : TypeId} {k : IntKind} {a b : Int} (hx : ev f x = .int k a) (hy : ev f y = .int k b) : Dtu P n f E H ⟨d, .binOp .eql t x y t', ty, pos, aft, g⟩ (.bool (decide (a = b))) :=
  Dtu.bin hx hy fun w => by simp [binOp, Op.intCmp]; rfl
theorem Dtu.neq {t t' : TypeId} {k : IntKind} {a b : Int} (hx : ev f x = .int k a) (hy : ev f y = .int k b) : Dtu P n f E H ⟨d, .binOp .neq t x y t', ty, pos, aft, g⟩ (.bool (decide (a ≠ b))) :=
  Dtu.bin hx hy fun w => by simp [binOp, Op.intCmp]; rfl
theorem Dtu.not {t : TypeId} {b : Bool} (hx : ev f x = .bool b) : Dtu P n f E H ⟨d, .unOp .not t x, ty, pos, aft, g⟩ (.bool (!b)) := fun w0 s w a r => by
  simp [execOp, r.eval, hx, Op.unary]
theorem Dtu.notP {t : TypeId} {p : Prop} {_ : Decidable p} (hx : ev f x = .bool (decide p)) : Dtu P n f E H ⟨d, .unOp .not t x, ty, pos, aft, g⟩ (.bool (decide (¬ p))) := by
  have := Dtu.not (P := P) (n := n) (E := E) (H := H) (d := d) (ty := ty) (pos := pos) (aft := aft) (g := g) (t := t) hx
  simpa using this
theorem Dtu.neg {t : TypeId} {k : IntKind} {a c : Int} (hx : ev f x = .int k a) (h : k.wrap (0 - a) = c) : Dtu P n f E H ⟨d, .unOp .neg t x, ty, pos, aft, g⟩ (.int k c) := fun w0 s w a r => by
  subst h; simp [execOp, r.eval, hx, Op.unary, Op.intArith]
theorem Dtu.cpl {t : TypeId} {k : IntKind} {a c : Int} (hx : ev f x = .int k a) (h : ibit .xor k (if k.signed then -1 else k.max) a = c) : Dtu P n f E H ⟨d, .unOp .xor t x, ty, pos, aft, g⟩ (.int k c) := fun w0 s w a r => by
  subst h; simp [execOp, r.eval, hx, Op.unary, Op.intBits, ibit]
/-- conversion of a whole number -/
theorem Dtu.cvt {s t : TypeId} {k j : IntKind} {a c : Int} {D : TypeDesc} (hs : P.underlying s = some D) (ht : P.underlying t = some (.int j)) (hx : ev f x = .int k a) (h : j.wrap a = c) :
    Dtu P n f E H ⟨d, .convert s t x, ty, pos, aft, g⟩ (.int j c) := fun w0 s w a r => by
  subst h
  simp only [execOp, r.eval, hx, convert, Sem.run_bind, run_underlying hs, run_underlying ht, Result.andThen_ok, Conv.intToInt]
  cases D <;> rfl
theorem Dtu.ext {i : Nat} {vs : List Value} {v : Value} (hx : ev f x = .tuple vs.toArray) (hi : vs[i]? = some v) : Dtu P n f E H ⟨d, .extract x i, ty, pos, aft, g⟩ v := fun w0 s w a r => by
  simp [execOp, r.eval, hx, Instr.extract, hi]
theorem Dtu.len {t : TypeId} {e : TypeId} {a : Option Addr} {m c : Nat} (ht : P.underlying t = some (.slice e)) (hx : ev f x = .slice a m c) :
    Dtu P n f E H ⟨d, .call { callee := .builtin .len, args := #[x], argTypes := #[t] }, ty, pos, aft, g⟩ (.int .i64 m) := fun w0 s w a' r => by
  simp [execOp, r.eval, hx, resolve, invoke, builtin, Builtin.len_, run_underlying ht, goInt]
theorem Dtu.cap {t : TypeId} {e : TypeId} {a : Option Addr} {m c : Nat} (ht : P.underlying t = some (.slice e)) (hx : ev f x = .slice a m c) :
    Dtu P n f E H ⟨d, .call { callee := .builtin .cap, args := #[x], argTypes := #[t] }, ty, pos, aft, g⟩ (.int .i64 c) := fun w0 s w a' r => by
  simp [execOp, r.eval, hx, resolve, invoke, builtin, Builtin.cap_, run_underlying ht, goInt]
theorem Dtu.lenStr {t : TypeId} {b : ByteArray} (ht : P.underlying t = some .string) (hx : ev f x = .string b) :
    Dtu P n f E H ⟨d, .call { callee := .builtin .len, args := #[x], argTypes := #[t] }, ty, pos, aft, g⟩ (.int .i64 b.size) := fun w0 s w a' r => by
  simp [execOp, r.eval, hx, resolve, invoke, builtin, Builtin.len_, run_underlying ht, goInt]
theorem Dtu.max {t u : TypeId} {k : IntKind} {a b : Int} (hx : ev f x = .int k a) (hy : ev f y = .int k b) :
    Dtu P n f E H ⟨d, .call { callee := .builtin .max, args := #[x, y], argTypes := #[t, u] }, ty, pos, aft, g⟩ (.int k (Max.max a b)) := fun w0 s w a' r => by
  simp only [execOp, r.eval, resolve, invoke, builtin, Builtin.max_, Sem.run_bind, Sem.run_pure, Result.andThen_ok]
  simp [hx, hy, Builtin.max2]
  omega
theorem Dtu.min {t u : TypeId} {k : IntKind} {a b : Int} (hx : ev f x = .int k a) (hy : ev f y = .int k b) :
    Dtu P n f E H ⟨d, .call { callee := .builtin .min, args := #[x, y], argTypes := #[t, u] }, ty, pos, aft, g⟩ (.int k (Min.min a b)) := fun w0 s w a' r => by
  simp only [execOp, r.eval, resolve, invoke, builtin, Builtin.min_, Sem.run_bind, Sem.run_pure, Result.andThen_ok]
  simp [hx, hy, Builtin.min2]
  omega
theorem Dtu.mkf {fn : Go.Fn} : Dtu P n f E H ⟨d, .makeFunc fn #[] #[], ty, pos, aft, g⟩ (.func fn #[] #[]) := fun w0 s w a' r => by
  simp [execOp, Instr.makeFunc]
theorem Dtu.mki {t : TypeId} {D : TypeDesc} {v : Value} (ht : P.underlying t = some D) (hD : (match D with | .interface _ => false | _ => true) = true) (hx : ev f x = v) : Dtu P n f E H ⟨d, .makeInterface t x, ty, pos, aft, g⟩ (.iface t v) := fun w0 s w a' r => by
  simp only [execOp, r.eval, hx, Instr.makeInterface, Sem.run_bind, run_underlying ht, Result.andThen_ok]
  cases D <;> first | rfl | cases hD
theorem Dtu.nilck {a : Addr} (hx : ev f x = .pointer (some a)) : Dtu P n f E H ⟨d, .nilCheck x, ty, pos, aft, g⟩ (.pointer (some a)) := fun w0 s w a' r => by
  simp [execOp, r.eval, hx]
end

/-! ### calls -/
section
variable {P : Program} {n : Nat} {f : Fr} {E : Env} {H : List HProp} {d : Option Nat} {ty : TypeId} {pos : String} {aft : Array Edge} {g : Option (Nat × Bool)}
def evs (f : Fr) (xs : List Operand) : List Value := xs.map (ev f)
theorem run_call {fn : FuncId} {a : Act} (r : Rel n f a.tmps) (xs : List Operand) {ts : Array TypeId} {c : Operand} (hc : ev f c = .func (.func fn) #[] #[])
    (hcall : ∀ args w, (callFunc fn args).run P w = .ok (.enter fn args) w) (w : World) :
    (execOp a.eval ⟨d, .call { callee := .value c, args := xs.toArray, argTypes := ts }, ty, pos, aft, g⟩).run P w = .ok (.enter fn (evs f xs).toArray) w := by
  simp [execOp, r.eval, resolve, hc, Deferred.ofValue, invoke, hcall, evs]
/-- a call that owns nothing of ours: what we own stays in sight -/
theorem Stp.call {fn : FuncId} {xs : List Operand} {args : List Value} {ts : Array TypeId} {c : Operand} {K : Value → List HProp → Prop} {Q : Value → List HProp → Prop}
    (hc : ev f c = .func (.func fn) #[] #[]) (hcall : ∀ args w, (callFunc fn args).run P w = .ok (.enter fn args) w) (hx : evs f xs = args)
    (h : ∀ E', E.Le E' → (∀ A ∈ H, At A E') → Does P fn args.toArray E' [] Q) (k : ∀ v A, Q v A → K v (A ++ H)) :
    Stp true P n f E H ⟨d, .call { callee := .value c, args := xs.toArray, argTypes := ts }, ty, pos, aft, g⟩ K := fun w a r s => by
  unfold OpR
  rw [run_call r xs hc hcall w, hx]
  refine (h (envOf w) s.le s.at w St.all).mono ?_
  rintro e w' ⟨v, A, rfl, q, s'⟩
  obtain ⟨s2, x⟩ := s.add s'
  exact ⟨v, rfl, fun _ => x, A ++ H, k v A q, s2⟩
/-- a call that is handed some of what we own -/
theorem Stp.callOwn (is : List Nat) {Hc Hf : List HProp} (hp : pick is H = some (Hc, Hf)) {fn : FuncId} {xs : List Operand} {args : List Value} {ts : Array TypeId} {c : Operand} {K : Value → List HProp → Prop} {Q : Value → List HProp → Prop}
    (hc : ev f c = .func (.func fn) #[] #[]) (hcall : ∀ args w, (callFunc fn args).run P w = .ok (.enter fn args) w) (hx : evs f xs = args)
    (h : ∀ E', E.Le E' → (∀ A ∈ Hf, At A E') → Does P fn args.toArray E' Hc Q) (k : ∀ v A, Q v A → K v (A ++ Hf)) :
    Stp false P n f E H ⟨d, .call { callee := .value c, args := xs.toArray, argTypes := ts }, ty, pos, aft, g⟩ K := fun w a r s => by
  unfold OpR
  rw [run_call r xs hc hcall w, hx]
  obtain ⟨E', le, hat, s1, back⟩ := (s.perm (pick_perm hp)).frame
  refine (h E' le hat w s1).mono ?_
  rintro e w' ⟨v, A, rfl, q, s'⟩
  exact ⟨v, rfl, fun e => (by cases e), A ++ Hf, k v A q, back A w' s'⟩
end
end Go.Sx
