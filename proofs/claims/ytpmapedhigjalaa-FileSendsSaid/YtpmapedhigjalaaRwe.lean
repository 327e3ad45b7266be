/- QNwc: FilO, FilP, OpenF, CrcA, OncA, OncB, OncC, CrcB, StoB, StoC, StoD, StoE. -/
import Derived.Tactics
import Derived.Tactics2
import Derived.Defers
import Derived.Laws.Pointers
import Derived.Laws.LoneSync
import Derived.RegionTactic
import Derived.RegionCalls
import Derived.ChangeAlike
import Derived.Test.YtpmapedhigjalaaRwa
import Derived.Test.YtpmapedhigjalaaRwb
import Derived.Test.YtpmapedhigjalaaRwc
import Derived.Test.YtpmapedhigjalaaRwd
section
/- file: senders that are nil, or that no call made. -/
namespace Go.Proofs.Ytpmapedhigjalaa
set_option maxRecDepth 100000
set_option maxHeartbeats 4000000
set_option linter.unusedVariables false
set_option linter.unusedSimpArgs false
open Go.Sx

end Go.Proofs.Ytpmapedhigjalaa
end
section
/- FileLives: the walk. -/
namespace Go.Proofs.Ytpmapedhigjalaa
set_option maxRecDepth 100000
set_option maxHeartbeats 4000000
set_option linter.unusedVariables false
set_option linter.unusedSimpArgs false
open Go.Sx

structure FOp where
  k : Int
  n : Int
  x : Int
  deriving Inhabited
def FOp.enc (o : FOp) : List Value := [.int .i64 o.k, .int .i64 o.n, .int .u64 o.x]
theorem Snd.know_ok {z : Snd} (ok : z.Ok) {n x : Int} (hx : U64 x) : (z.know n x).Ok := by
  unfold Snd.know; split
  · rename_i h
    obtain ⟨h1, h2, h3⟩ := askF_0 h
    exact ok.or hx h1 h2
  · exact ok
theorem Snd.cancel_ok {z : Snd} (ok : z.Ok) : z.cancel.Ok := by
  unfold Snd.cancel; split
  · exact ⟨ok.len, ok.x⟩
  · exact ok
end Go.Proofs.Ytpmapedhigjalaa
end
section
/- Arguments of the file's statements. -/
namespace Go.Proofs.Ytpmapedhigjalaa
set_option maxRecDepth 100000
set_option linter.unusedVariables false
set_option linter.unusedSimpArgs false
open Go.Sx Go.ChangeShapes Go.RowKit
section
variable {H : Type} {enc : TypeId × Value → H} {W : World} {base : Nat} {held : Bool} {fuel : Nat} {cs : List Value} {x : DataW H × List MemPlace}
theorem cells1_72 : Try.prog.cellsOf 72 = 1 := by kernel_rfl
theorem cells2_86 : Try.prog.cellsOf 86 = 2 := by kernel_rfl
theorem trod_bytes (h : DataW.trod enc Try.prog W base (fun _ => true) held fuel 73 cs = some x) : ∃ (s : Value) (bs : List Int), cs = [s] ∧ Sl (envOf W) [] 1 s bs.length (bs.map (.int .u8)) ∧ Byt bs := by
  obtain ⟨s, l, h1, h2, h3⟩ := trod_list (en := fun c : Int => [Value.int .u8 c]) (Q := fun c => 0 ≤ c ∧ c < 256) Try.underlying73 cells1_5 (by omega) (fun _ => rfl) (fun h => by
    obtain ⟨c, e, _, w0⟩ := DataW.trod_int Try.underlying5 h
    have := bounds_u8 w0
    exact ⟨c, e, by omega, by omega⟩) h
  rw [show l.flatMap (fun c : Int => [Value.int .u8 c]) = l.map (.int .u8) from by rw [List.map_eq_flatMap]] at h2
  exact ⟨s, l, h1, h2, Byt.iff.2 h3⟩
theorem trod_map (h : DataW.trod enc Try.prog W base (fun _ => true) held fuel 86 cs = some x) : ∃ n y : Int, cs = [.int .i64 n, .int .u64 y] ∧ U64 y := by
  have hl := lenT Try.underlying86 h
  rw [cells2_86] at hl
  match cs, hl with
  | [v0, v1], _ =>
    obtain ⟨n0, y0, h0⟩ := fldT Try.underlying86 h 0 3 0 1 rfl rfl rfl cells1_3
    obtain ⟨n1, y1, h1⟩ := fldT Try.underlying86 h 1 72 1 1 rfl rfl rfl cells1_72
    obtain ⟨a0, e0, _, w0⟩ := DataW.trod_int Try.underlying3 h0
    obtain ⟨a1, e1, _, w1⟩ := DataW.trod_int Try.underlying72 h1
    have b1 := bounds_u64 w1
    simp at e0 e1
    subst e0 e1
    exact ⟨a0, a1, rfl, ⟨by omega, by omega⟩⟩
open Go.WideShapes in
theorem open_map {b0 : Nat} {v0 : Value} {d : DataW H} {p : List MemPlace} (hval : Value.okWide Try.prog W .any b0 86 v0) (h0 : DataW.Trod enc Try.prog W 0 (fun _ => true) true 86 v0 d p) :
    ∃ (n y : Int), v0 = .agg #[.int .i64 n, .int .u64 y] ∧ U64 y := by
  obtain ⟨cs, rfl, _⟩ := okWide_struct Try.underlying86 hval
  obtain ⟨n, h⟩ := h0
  have e : (Value.agg cs).cells.toList = cs.toList := rfl
  rw [e] at h
  obtain ⟨n, y, hc, hi⟩ := trod_map h
  refine ⟨n, y, ?_, hi⟩
  congr 1
  rw [← Array.toList_inj, hc]
end
end Go.Proofs.Ytpmapedhigjalaa
end
section
/- crc: the plain law: by a table, and bit by bit. -/
namespace Go.Proofs.Ytpmapedhigjalaa
set_option maxRecDepth 100000
set_option linter.unusedVariables false
/-- a bit goes -/
def crB (v : Nat) : Nat := if v % 2 = 1 then v / 2 ^^^ 3988292384 else v / 2
def crN : Nat → Nat → Nat
  | 0, v => v
  | n + 1, v => crB (crN n v)
/-- the table -/
def crT (i : Nat) : Nat := crN 8 i
def crS (v c : Nat) : Nat := v / 256 ^^^ crT (v % 256 ^^^ c)
def crF (v : Nat) (l : List Nat) : Nat := l.foldl crS v
def crOf (l : List Nat) : Nat := crF 4294967295 l ^^^ 4294967295
theorem crB_xor (a b : Nat) : crB (a ^^^ b) = crB a ^^^ crB b := by
  have h1 : (a ^^^ b) / 2 = a / 2 ^^^ b / 2 := by
    have := Nat.shiftRight_xor_distrib (a := a) (b := b) (i := 1)
    simpa [Nat.shiftRight_eq_div_pow] using this
  have h2 : (a ^^^ b) % 2 = 1 ↔ ¬ (a % 2 = 1 ↔ b % 2 = 1) := Nat.xor_mod_two_eq_one
  unfold crB
  rw [h1]
  by_cases ha : a % 2 = 1 <;> by_cases hb : b % 2 = 1
  · rw [if_neg (fun h => (h2.1 h) (iff_of_true ha hb)), if_pos ha, if_pos hb]
    rw [Nat.xor_assoc, ← Nat.xor_assoc 3988292384, Nat.xor_comm 3988292384, Nat.xor_assoc, Nat.xor_self, Nat.xor_zero]
  · rw [if_pos (h2.2 fun h => hb (h.1 ha)), if_pos ha, if_neg hb, Nat.xor_assoc, Nat.xor_assoc, Nat.xor_comm (b / 2)]
  · rw [if_pos (h2.2 fun h => ha (h.2 hb)), if_neg ha, if_pos hb, Nat.xor_assoc]
  · rw [if_neg (fun h => (h2.1 h) (iff_of_false ha hb)), if_neg ha, if_neg hb]
theorem crN_xor (n a b : Nat) : crN n (a ^^^ b) = crN n a ^^^ crN n b := by
  induction n with
  | zero => rfl
  | succ n ih => rw [crN, ih, crB_xor]; rfl
theorem crN_even (n : Nat) : ∀ y, crN n (y * 2 ^ n) = y := by
  have hsh : ∀ n v, crN n (crB v) = crB (crN n v) := fun n v => by
    induction n with
    | zero => rfl
    | succ n ih => rw [crN, ih]; rfl
  induction n with
  | zero => intro y; simp [crN]
  | succ n ih =>
    intro y
    rw [crN, ← hsh, crB, if_neg (by rw [Nat.pow_succ, ← Nat.mul_assoc]; omega), Nat.pow_succ, ← Nat.mul_assoc, Nat.mul_div_cancel _ (by omega)]
    exact ih y
theorem split256 (x : Nat) : x = (x / 256 * 256) ^^^ (x % 256) := by
  have h : (x / 256 * 256) ^^^ (x % 256) = x / 256 * 256 + x % 256 := by
    have h0 : (x / 256) <<< 8 + x % 256 = (x / 256) <<< 8 ||| x % 256 := Nat.shiftLeft_add_eq_or_of_lt (by omega) _
    have h1 : (x / 256) <<< 8 = x / 256 * 256 := by rw [Nat.shiftLeft_eq]
    rw [h1] at h0
    rw [h0]
    refine Nat.eq_of_testBit_eq fun i => ?_
    rw [Nat.testBit_xor, Nat.testBit_or]
    by_cases hi : i < 8
    · have : (x / 256 * 256).testBit i = false := by
        rw [show 256 = 2 ^ 8 from rfl, Nat.testBit_mul_two_pow]
        simp; omega
      rw [this]; simp
    · have : (x % 256).testBit i = false := Nat.testBit_lt_two_pow (Nat.lt_of_lt_of_le (show x % 256 < 2 ^ 8 by omega) (Nat.pow_le_pow_right (by omega) (by omega)))
      rw [this]; simp
  omega
/-- bit by bit is by the table -/
theorem crN8 (x : Nat) : crN 8 x = x / 256 ^^^ crT (x % 256) := by
  conv => lhs; rw [split256 x]
  rw [crN_xor, show (256 : Nat) = 2 ^ 8 from rfl, crN_even]; rfl
theorem crS_bits {v c : Nat} (hc : c < 256) : crS v c = crN 8 (v ^^^ c) := by
  rw [crN8, crS]
  have h1 : (v ^^^ c) / 256 = v / 256 := by
    have := Nat.shiftRight_xor_distrib (a := v) (b := c) (i := 8)
    rw [Nat.shiftRight_eq_div_pow, Nat.shiftRight_eq_div_pow, Nat.shiftRight_eq_div_pow, show c / 2 ^ 8 = 0 by omega, Nat.xor_zero] at this
    exact this
  have h2 : (v ^^^ c) % 256 = v % 256 ^^^ c := by
    have := Nat.xor_mod_two_pow (a := v) (b := c) (n := 8)
    rw [show c % 2 ^ 8 = c from Nat.mod_eq_of_lt hc] at this
    exact this
  rw [h1, h2]
theorem crB_lt {v : Nat} (h : v < 4294967296) : crB v < 4294967296 := by
  unfold crB
  split
  · exact Nat.xor_lt_two_pow (n := 32) (by omega) (by omega)
  · omega
theorem crN_lt (n : Nat) {v : Nat} (h : v < 4294967296) : crN n v < 4294967296 := by
  induction n with
  | zero => exact h
  | succ n ih => exact crB_lt ih
theorem xor256 {a b : Nat} (ha : a < 256) (hb : b < 256) : a ^^^ b < 256 := Nat.xor_lt_two_pow (n := 8) ha hb
theorem crS_lt {v c : Nat} (h : v < 4294967296) (hc : c < 256) : crS v c < 4294967296 := by
  rw [crS_bits hc]
  exact crN_lt 8 (Nat.xor_lt_two_pow (n := 32) h (by omega))
theorem crF_lt {l : List Nat} (hl : ∀ c ∈ l, c < 256) : ∀ {v : Nat}, v < 4294967296 → crF v l < 4294967296 := by
  induction l with
  | nil => exact fun h => h
  | cons c l ih => exact fun h => ih (fun x hx => hl x (.tail _ hx)) (crS_lt h (hl c (.head _)))
end Go.Proofs.Ytpmapedhigjalaa
end
section
/- sync.Once: one goroutine, not yet done: the parts. -/
namespace Go.Proofs.Ytpmapedhigjalaa
set_option maxRecDepth 100000
set_option maxHeartbeats 4000000
theorem on_disable (w : World) : (callFunc 136 #[]).run Try.prog w = .ok (.value (.tuple #[])) w := run_call_mark0 Try.func136 (by kernel_rfl) (by kernel_rfl) (by kernel_rfl) .disable (by kernel_rfl) w
theorem on_enable (w : World) : (callFunc 138 #[]).run Try.prog w = .ok (.value (.tuple #[])) w := run_call_mark0 Try.func138 (by kernel_rfl) (by kernel_rfl) (by kernel_rfl) .enable (by kernel_rfl) w
theorem on_acquire (a : Addr) (w : World) : (callFunc 139 #[.pointer (some a)]).run Try.prog w = .ok (.value (.tuple #[])) w := run_call_marked Try.func139 (by kernel_rfl) (by kernel_rfl) (by kernel_rfl) .acquire (by kernel_rfl) a w
theorem on_release (a : Addr) (w : World) : (callFunc 141 #[.pointer (some a)]).run Try.prog w = .ok (.value (.tuple #[])) w := run_call_marked Try.func141 (by kernel_rfl) (by kernel_rfl) (by kernel_rfl) .releaseMerge (by kernel_rfl) a w

theorem on_store (a : Addr) (x : Value) (u : FrameMode) (w : World) (hc : w.cell? a = some x) (hz : w.frozen? a = false) :
    CallsD Try.prog 131 #[.pointer (some a), .bool true] u w fun e u' w' => u' = u ∧ (e = .returned (.tuple #[]) ∧ w' = w.drew.setCell a (.int .u32 1)) := by
  have hc' : w.drew.cell? a = some x := by go_simp
  have hz' : w.drew.frozen? a = false := by go_simp
  have hst := run_call_store (P := Try.prog) Try.func134 (by kernel_rfl) (by kernel_rfl) (by kernel_rfl) (by kernel_rfl) (k := .u32) (y := 1) hc' hz'
  go_enter_d Try.func131, Try.ntmps131
  go_wp2
  go_region_calls
  all_goals (go_end0; exact ⟨rfl, rfl⟩)

theorem on_unlock (a : Addr) (u : FrameMode) (w : World) (hc : w.cell? a = some (.int .i32 1)) (hz : w.frozen? a = false) :
    CallsD Try.prog 130 #[.pointer (some a)] u w fun e u' w' => u' = u ∧ (e = .returned (.tuple #[]) ∧ w' = w.setCell a (.int .i32 0)) := by
  have hd := on_disable
  have he := on_enable
  have hr := on_release
  have hadd := run_call_add (P := Try.prog) Try.func142 (by kernel_rfl) (by kernel_rfl) (by kernel_rfl) .i32 (by kernel_rfl) (y := -1) (s := 0) hc hz (by simp [go_sem]; rfl)
  have hcv := run_convert_to_unsafe (P := Try.prog) (src := 221) (dst := 225) Try.underlying221 Try.underlying225 (by kernel_rfl) hc
  go_enter_d Try.func130, Try.ntmps130
  go_wp2
  go_end0
  go_wp2
  go_end0
  exact ⟨rfl, rfl⟩

theorem on_lock (a : Addr) (w : World) (hc : w.cell? a = some (.int .i32 0)) (hz : w.frozen? a = false) :
    Calls Try.prog 129 #[.pointer (some a)] w fun e w' => e = .returned (.tuple #[]) ∧ w' = w.setCell a (.int .i32 1) := by
  have hd := on_disable
  have he := on_enable
  have ha := on_acquire
  have hcas := run_call_cas_hit (P := Try.prog) Try.func137 (by kernel_rfl) (by kernel_rfl) (by kernel_rfl) .i32 (by kernel_rfl) (y := 1) hc hz
  have hc' : (w.setCell a (.int .i32 1)).cell? a = some (.int .i32 1) := World.cell?_setCell_same w a _ hc
  have hcv := run_convert_to_unsafe (P := Try.prog) (src := 221) (dst := 225) Try.underlying221 Try.underlying225 (by kernel_rfl) hc'
  go_enter Try.func129, Try.ntmps129
  go_wp2
  first | go_end0 | (simp only [Exit.inBlock, Exit.then]; refine bodyPost_ret (results_none rfl _ _ _) rfl ?_) | refine bodyPost_ret (results_none rfl _ _ _) rfl ?_
  go_wp2
  go_end0
  exact ⟨rfl, rfl⟩
end Go.Proofs.Ytpmapedhigjalaa
end
section
/- sync.Once: doSlow, the lock free, not yet done; Do. -/
namespace Go.Proofs.Ytpmapedhigjalaa
set_option maxRecDepth 100000
set_option maxHeartbeats 4000000
theorem on_load0 (a : Addr) (w : World) (hc : w.cell? a = some (.int .u32 0)) :
    Calls Try.prog 125 #[.pointer (some a)] w fun e w' => e = .returned (.bool false) ∧ w' = w := by
  have hl := run_call_load (P := Try.prog) Try.func128 (by kernel_rfl) (by kernel_rfl) (by kernel_rfl) .u32 (by kernel_rfl) hc
  go_enter Try.func125, Try.ntmps125
  go_wp2
  go_ret
  exact ⟨rfl, rfl⟩
theorem on_slow (b off : Nat) (p : Addr) (w : World) (Q : World → Prop) (h0 : w.cell? ⟨b, off, none⟩ = some (.int .u32 0)) (h1 : w.cell? ⟨b, off + 1, none⟩ = some (.int .i32 0))
    (f1 : w.frozen? ⟨b, off + 1, none⟩ = false)
    (hf : Calls Try.prog 120 #[.pointer (some p)] (w.setCell ⟨b, off + 1, none⟩ (.int .i32 1)) fun e w' => e = .returned (.tuple #[]) ∧ Q w')
    (hQ : ∀ w', Q w' → (∃ x, w'.cell? ⟨b, off, none⟩ = some x) ∧ w'.cell? ⟨b, off + 1, none⟩ = some (.int .i32 1) ∧ w'.frozen? ⟨b, off, none⟩ = false ∧ w'.frozen? ⟨b, off + 1, none⟩ = false) :
    Calls Try.prog 126 #[.pointer (some ⟨b, off, none⟩), .func (.func 120) #[.pointer (some p)] #[]] w fun e w' => e = .returned (.tuple #[]) ∧
      ∃ w1, Q w1 ∧ w' = (w1.drew.setCell ⟨b, off, none⟩ (.int .u32 1)).setCell ⟨b, off + 1, none⟩ (.int .i32 0) := by
  have h01 : (w.setCell ⟨b, off + 1, none⟩ (.int .i32 1)).cell? ⟨b, off, none⟩ = some (.int .u32 0) := (World.cell?_setCell_other _ ⟨b, off + 1, none⟩ ⟨b, off, none⟩ _ (by simp)).trans h0
  -- (w := w.setCell ⟨b, off + 1, none⟩ (.int .i32 1)) (a := ⟨b, off, none⟩) (x := 0) ((World.cell?_setCell_other _ ⟨b, off + 1, none⟩ ⟨b, off, none⟩ _ (by simp)).trans h0)
  have hnot : ∀ (x : Bool) (w : World), (Op.unary .not (.bool x)).run Try.prog w = .ok (.bool (!x)) w := fun _ _ => rfl
  go_enter_defers Try.func126, Try.ntmps126
  go_wp2_with (first | (go_at_call 129; refine (on_lock ⟨b, off + 1, none⟩ _ h1 f1).mono ?_; rintro e w' ⟨rfl, rfl⟩) | (go_at_call 125; refine (on_load0 ⟨b, off, none⟩ _ h01).mono ?_; rintro e w' ⟨rfl, rfl⟩) | (go_at_call 120; refine hf.mono ?_; rintro e w1 ⟨rfl, hq⟩))
  obtain ⟨⟨x, q0⟩, q1, z0, z1⟩ := hQ w1 hq
  try go_wp2
  refine leaves_cons (f := 131) (args := #[.pointer (some ⟨b, off, none⟩), .bool true]) (by simp) (by simp [go_sem]) ?_
  refine (on_store ⟨b, off, none⟩ x .returning w1 q0 z0).mono ?_
  rintro e u' w'' ⟨rfl, rfl, rfl⟩
  refine leaves_cons (f := 130) (args := #[.pointer (some ⟨b, off + 1, none⟩)]) (by simp [settle]) (by simp [go_sem]) ?_
  refine (on_unlock ⟨b, off + 1, none⟩ _ _ ?_ (by simp [z1])).mono ?_
  · refine (World.cell?_setCell_other _ ⟨b, off, none⟩ ⟨b, off + 1, none⟩ _ (by simp)).trans ?_
    rw [World.cell?_drew]; exact q1
  rintro e u' w'' ⟨rfl, rfl, rfl⟩
  simp [Leaves, settle, results, Try.results126]
  exact ⟨w1, hq, rfl⟩
end Go.Proofs.Ytpmapedhigjalaa
end
section
/- sync.Once, atomic.Int64: contracts over what is owned. -/
namespace Go.Proofs.Ytpmapedhigjalaa
set_option maxRecDepth 100000
set_option maxHeartbeats 4000000
open Go.Sx
theorem _root_.Go.Sx.St.cellO {E : Env} {b off : Nat} {vs : List Value} {t : TypeId} {H : List HProp} {w : World} {v : Value} (s : St E (own b vs t :: H) w) (h : vs[off]? = some v) : w.cell? ⟨b, off, none⟩ = some v :=
  cell_of_heap s.block (by simpa using h)
theorem _root_.Go.Sx.St.warm {E : Env} {b off : Nat} {vs : List Value} {t : TypeId} {H : List HProp} {w : World} (s : St E (own b vs t :: H) w) : w.frozen? ⟨b, off, none⟩ = false := by
  unfold World.frozen?
  rw [s.block]
  simp
theorem _root_.Go.Sx.St.setc {E : Env} {b off : Nat} {vs : List Value} {t : TypeId} {H : List HProp} {w : World} (s : St E (own b vs t :: H) w) (v : Value) : St E (own b (vs.set off v) t :: H) (w.setCell ⟨b, off, none⟩ v) := by
  refine s.write ?_ (fun n hn => ?_) rfl rfl rfl
  · simp only [World.setCell, Array.getElem?_modify]
    rw [if_pos trivial, s.block]
    simp
  · simp only [World.setCell, Array.getElem?_modify]
    rw [if_neg (fun e => hn e.symm)]
/-- a Summer's cells -/
def smC (d m : Int) (t : List Nat) (n : Int) : List Value := .int .u32 d :: .int .i32 m :: .int .u32 0 :: (t.map fun x => Value.int .u32 (x : Nat)) ++ [.int .i64 n]
theorem once_do {E : Env} {b : Nat} {t t' : List Nat} {n : Int} (hf : Does Try.prog 120 #[.pointer (some ⟨b, 0, none⟩)] E [own b (smC 0 1 t n) 195] fun r H' => r = .tuple #[] ∧ H' = [own b (smC 0 1 t' n) 195]) :
    Does Try.prog 119 #[.pointer (some ⟨b, 0, none⟩), .func (.func 120) #[.pointer (some ⟨b, 0, none⟩)] #[]] E [own b (smC 0 0 t n) 195] fun r H' => r = .tuple #[] ∧ H' = [own b (smC 1 0 t' n) 195] := by
  intro w s
  have h0 : w.cell? ⟨b, 0, none⟩ = some (.int .u32 0) := s.cellO rfl
  have h1 : w.cell? ⟨b, 0 + 1, none⟩ = some (.int .i32 0) := s.cellO rfl
  have s1 : St E [own b (smC 0 1 t n) 195] (w.setCell ⟨b, 0 + 1, none⟩ (.int .i32 1)) := s.setc (off := 0 + 1) (.int .i32 1)
  have hq := on_slow b 0 ⟨b, 0, none⟩ w (fun w' => St E [own b (smC 0 1 t' n) 195] w') h0 h1 s.warm
    ((hf _ s1).mono (by rintro e w' ⟨v, H', rfl, ⟨rfl, rfl⟩, s2⟩; exact ⟨rfl, s2⟩))
    (fun w' s2 => ⟨⟨_, s2.cellO rfl⟩, s2.cellO rfl, s2.warm, s2.warm⟩)
  have hnot : ∀ (x : Bool) (w : World), (Op.unary .not (.bool x)).run Try.prog w = .ok (.bool (!x)) w := fun _ _ => rfl
  go_enter Try.func119, Try.ntmps119
  go_wp2_with (first | (go_at_call 126; refine hq.mono ?_; rintro e w' ⟨rfl, w1, s2, rfl⟩) | (go_at_call 125; refine (on_load0 ⟨b, 0, none⟩ _ h0).mono ?_; rintro e w' ⟨rfl, rfl⟩))
  go_end0
  have s3 : St E [own b (smC 1 1 t' n) 195] (w1.drew.setCell ⟨b, 0, none⟩ (.int .u32 1)) := s2.draw.setc (off := 0) (.int .u32 1)
  have s4 : St E [own b (smC 1 0 t' n) 195] ((w1.drew.setCell ⟨b, 0, none⟩ (.int .u32 1)).setCell ⟨b, 0 + 1, none⟩ (.int .i32 0)) := s3.setc (off := 0 + 1) (.int .i32 0)
  exact ⟨_, _, rfl, ⟨rfl, rfl⟩, s4⟩
theorem smC_runs (d m : Int) (t : List Nat) (n : Int) (hl : t.length = 256) : (smC d m t n)[259]? = some (.int .i64 n) := by
  unfold smC
  rw [List.getElem?_append_right (by simp [hl])]
  simp [hl]
theorem smC_set (d m : Int) (t : List Nat) (n k : Int) (hl : t.length = 256) : (smC d m t n).set 259 (.int .i64 k) = smC d m t k := by
  unfold smC
  rw [List.set_append_right _ _ (by simp [hl])]
  simp [hl]
theorem runs_add {E : Env} {b : Nat} {d m : Int} {t : List Nat} (hl : t.length = 256) :
    Does Try.prog 121 #[.pointer (some ⟨b, 259, none⟩), .int .i64 1] E [own b (smC d m t 0) 195] fun r H' => r = .int .i64 1 ∧ H' = [own b (smC d m t 1) 195] := by
  intro w s
  have hc : w.cell? ⟨b, 259, none⟩ = some (.int .i64 0) := s.cellO (smC_runs d m t 0 hl)
  have hz : w.frozen? ⟨b, 259, none⟩ = false := s.warm
  have hadd := run_call_add (P := Try.prog) Try.func127 (by kernel_rfl) (by kernel_rfl) (by kernel_rfl) .i64 (by kernel_rfl) (y := 1) (s := 1) hc hz (by simp [go_sem]; rfl)
  have s1 : St E [own b (smC d m t 1) 195] (w.setCell ⟨b, 259, none⟩ (.int .i64 1)) := by
    have := s.setc (off := 259) (.int .i64 1)
    rwa [smC_set d m t 0 1 hl] at this
  go_enter Try.func121, Try.ntmps121
  go_wp2
  go_ret
  exact ⟨_, _, rfl, ⟨rfl, rfl⟩, s1⟩
end Go.Proofs.Ytpmapedhigjalaa
end
section
/- crc: fill, More, Of. -/
namespace Go.Proofs.Ytpmapedhigjalaa
set_option maxRecDepth 100000
set_option maxHeartbeats 4000000
set_option linter.unusedVariables false
set_option linter.unusedSimpArgs false
open Go.Sx
/-- the table, its first entries made -/
def crTab (i : Nat) : List Nat := (List.range 256).map fun j => if j < i then crT j else 0
theorem putC_mk {a us c vs' : List Value} {off : Nat} {bs : List Value} (ha : a.length = off) (hb : bs.length = us.length) (h : vs' = a ++ us ++ c) : PutC (a ++ bs ++ c) off us vs' := by
  subst ha h
  refine ⟨by simp; omega, ?_⟩
  have e1 : (a ++ bs ++ c).take a.length = a := by rw [List.append_assoc, List.take_left]
  have e2 : (a ++ bs ++ c).drop (a.length + us.length) = c := by rw [← hb, ← List.length_append, List.drop_left]
  rw [e1, e2]
theorem list_at {α : Type} (l : List α) {i : Nat} (h : i < l.length) : ∃ a x c, l = a ++ x :: c ∧ a.length = i :=
  ⟨l.take i, l[i], l.drop (i + 1), by rw [← List.drop_eq_getElem_cons, List.take_append_drop], by simp; omega⟩
theorem set_at {α : Type} (a : List α) (x y : α) (c : List α) : (a ++ x :: c).set a.length y = a ++ y :: c := by simp
theorem xor32_n {x y : Nat} (hx : x < 2 ^ 32) (hy : y < 2 ^ 32) : ibit .xor .u32 (x : Int) (y : Int) = ((x ^^^ y : Nat) : Int) := by
  have e : ∀ v : Nat, BitVec.ofInt 32 (v : Int) = BitVec.ofNat 32 v := fun v => BitVec.ofInt_natCast ..
  show IntKind.u32.wrap ((BitVec.ofInt 32 (x : Int) ^^^ BitVec.ofInt 32 (y : Int)).toNat : Int) = _
  rw [e, e, wu32 (by omega) (by have := BitVec.isLt (BitVec.ofNat 32 x ^^^ BitVec.ofNat 32 y); omega), BitVec.toNat_xor, BitVec.toNat_ofNat, BitVec.toNat_ofNat, Nat.mod_eq_of_lt hx, Nat.mod_eq_of_lt hy]
theorem and32_1 {x : Nat} (hx : x < 2 ^ 32) : ibit .and .u32 (x : Int) 1 = ((x % 2 : Nat) : Int) := by
  have e : ∀ v : Nat, BitVec.ofInt 32 (v : Int) = BitVec.ofNat 32 v := fun v => BitVec.ofInt_natCast ..
  show IntKind.u32.wrap ((BitVec.ofInt 32 (x : Int) &&& BitVec.ofInt 32 ((1 : Nat) : Int)).toNat : Int) = _
  rw [e, e, wu32 (by omega) (by have := BitVec.isLt (BitVec.ofNat 32 x &&& BitVec.ofNat 32 1); omega), BitVec.toNat_and, BitVec.toNat_ofNat, BitVec.toNat_ofNat, Nat.mod_eq_of_lt hx, Nat.mod_eq_of_lt (by omega), Nat.and_one_is_mod]
theorem smC_put (d m : Int) (t : List Nat) (n : Int) {i : Nat} (x : Nat) (hl : t.length = 256) (hi : i < 256) : PutC (smC d m t n) (3 + i) [.int .u32 (x : Nat)] (smC d m (t.set i x) n) := by
  obtain ⟨a, y, c, rfl, rfl⟩ := list_at t (i := i) (by omega)
  rw [set_at]
  have := putC_mk (a := .int .u32 d :: .int .i32 m :: .int .u32 0 :: a.map fun x => Value.int .u32 (x : Nat)) (bs := [.int .u32 (y : Nat)]) (us := [.int .u32 (x : Nat)]) (c := (c.map fun x => Value.int .u32 (x : Nat)) ++ [.int .i64 n]) (off := 3 + a.length) (by simp; omega) rfl rfl
  simpa [smC] using this
theorem crTab_set {i : Nat} (h : i < 256) : (crTab i).set i (crT i) = crTab (i + 1) := by
  refine List.ext_getElem (by simp [crTab]) fun j h1 h2 => ?_
  rw [List.getElem_set]
  simp only [crTab, List.getElem_map, List.getElem_range]
  split
  · rename_i e; subst e; rw [if_pos (by omega)]
  · rename_i e
    by_cases hj : j < i
    · rw [if_pos hj, if_pos (by omega)]
    · rw [if_neg hj, if_neg (by omega)]
theorem fill_ok (E : Env) (b : Nat) : Does Try.prog 120 #[.pointer (some ⟨b, 0, none⟩)] E ([own b (smC 0 1 (crTab 0) 0) 195]) fun r H' => r = .tuple #[] ∧ H' = [own b (smC 0 1 (crTab 256) 0) 195] := by
  refine Does.go _ _ Try.func120 rfl Try.ntmps120 rfl rfl ?_
  skip
  refine Body.seq ?_
  refine Body.region ?_
  refine Ops.u (Dtu.mv (lk rfl)) rfl ?_
  refine Ops.nil ?_
  refine Then.next ?_
  refine Body.block ?_
  refine Body.loopL (γ := Nat) [0] rfl (fun i => [(4, .int .i64 (i : Nat))]) (fun i => [(0, own b (smC 0 1 (crTab i) 0) 195)]) (fun _ => rfl) (fun _ _ => rfl) (fun i => i ≤ 256) (fun i => 256 - i) (0) (Nat.zero_le _) ⟨rfl, trivial⟩ rfl ?_
  rintro i u hi
  by_cases hlt : i < 256
  · refine Body.seq ?_
    refine Body.region ?_
    refine Ops.u (Dtu.lss (lk rfl) (lk rfl)) rfl ?_
    refine Ops.nil ?_
    refine Then.next ?_
    refine Body.seq ?_
    refine Body.condP (lk rfl) (fun _ => ?_) (fun hn => absurd (by first | omega | assumption | decide) hn)
    refine Body.skip ?_
    refine Then.next ?_
    refine Body.seq ?_
    refine Body.block ?_
    refine Body.seq ?_
    refine Body.region ?_
    refine Ops.u (Dtu.mv (lk rfl)) rfl ?_
    refine Ops.u (Dtu.asg (lk rfl)) rfl ?_
    refine Ops.nil ?_
    refine Then.next ?_
    refine Body.seq ?_
    refine Body.region ?_
    refine Ops.u (Dtu.mv (lk rfl)) rfl ?_
    refine Ops.u (Dtu.cvt Try.underlying3 Try.underlying35 (lk rfl) (wu32 (by omega) (by omega))) rfl ?_
    refine Ops.u (Dtu.asg (lk rfl)) rfl ?_
    refine Ops.nil ?_
    refine Then.next ?_
    refine Body.seq ?_
    refine Body.seq ?_
    refine Body.region ?_
    refine Ops.u (Dtu.mv (lk rfl)) rfl ?_
    refine Ops.nil ?_
    refine Then.next ?_
    refine Body.block ?_
    refine Body.loopL (γ := Nat) [0, 2, 4] rfl (fun k => [(9, .int .i64 (k : Nat)), (3, .int .u32 (crN k i : Nat))]) (fun k => []) (fun _ => rfl) (fun _ _ => rfl) (fun k => k ≤ 8) (fun k => 8 - k) (0) (Nat.zero_le _) ⟨rfl, rfl, trivial⟩ rfl ?_
    rintro k u2 hk
    have hv : crN k i < 4294967296 := crN_lt k (by omega)
    by_cases hlk : k < 8
    · have h1 : ibit .and .u32 ((crN k i : Nat) : Int) 1 = ((crN k i % 2 : Nat) : Int) := and32_1 hv
      have h2 : ((crN k i : Nat) : Int).fdiv (2 ^ min (Int.toNat 1) IntKind.u32.bits) = ((crN k i / 2 : Nat) : Int) := by
        show Int.fdiv _ 2 = _
        rw [Int.fdiv_eq_ediv_of_nonneg _ (by decide)]; omega
      have h3 : ibit .xor .u32 ((crN k i / 2 : Nat) : Int) 3988292384 = ((crN k i / 2 ^^^ 3988292384 : Nat) : Int) := xor32_n (y := 3988292384) (by omega) (by decide)
      by_cases hp : crN k i % 2 = 1
      · have h4 : crN (k + 1) i = crN k i / 2 ^^^ 3988292384 := if_pos hp
        refine Body.seq ?_
        refine Body.region ?_
        refine Ops.u (Dtu.lss (lk rfl) (lk rfl)) rfl ?_
        refine Ops.nil ?_
        refine Then.next ?_
        refine Body.seq ?_
        refine Body.condP (lk rfl) (fun _ => ?_) (fun hn => absurd (by first | omega | assumption | decide) hn)
        refine Body.skip ?_
        refine Then.next ?_
        refine Body.seq ?_
        refine Body.block ?_
        refine Body.seq ?_
        refine Body.region ?_
        refine Ops.u (Dtu.mv (lk rfl)) rfl ?_
        refine Ops.u (Dtu.bit rfl (lk rfl) (lk rfl) (by with_reducible assumption)) rfl ?_
        refine Ops.u (Dtu.eql (lk rfl) (lk rfl)) rfl ?_
        refine Ops.nil ?_
        refine Then.next ?_
        refine Body.condP (lk rfl) (fun _ => ?_) (fun hn => absurd (by first | omega | assumption | decide) hn)
        refine Body.region ?_
        refine Ops.u (Dtu.mv (lk rfl)) rfl ?_
        refine Ops.u (Dtu.shr (lk rfl) (lk rfl) (by first | decide | omega) (by with_reducible assumption)) rfl ?_
        refine Ops.u (Dtu.bit rfl (lk rfl) (lk rfl) (by with_reducible assumption)) rfl ?_
        refine Ops.u (Dtu.asg (lk rfl)) rfl ?_
        refine Ops.nil ?_
        refine Blk.norm ?_
        refine Then.next ?_
        refine Body.region ?_
        refine Ops.u (Dtu.add (lk rfl) (lk rfl) (w64 (by omega) (by omega))) rfl ?_
        refine Ops.u (Dtu.mv (lk rfl)) rfl ?_
        refine Ops.nil ?_
        refine Round.goL [0] (k + 1) rfl ⟨rfl, by (try dsimp only); rw [h4]; try rfl, trivial⟩ rfl rfl hlk (by omega)
      · have h4 : crN (k + 1) i = crN k i / 2 := if_neg hp
        refine Body.seq ?_
        refine Body.region ?_
        refine Ops.u (Dtu.lss (lk rfl) (lk rfl)) rfl ?_
        refine Ops.nil ?_
        refine Then.next ?_
        refine Body.seq ?_
        refine Body.condP (lk rfl) (fun _ => ?_) (fun hn => absurd (by first | omega | assumption | decide) hn)
        refine Body.skip ?_
        refine Then.next ?_
        refine Body.seq ?_
        refine Body.block ?_
        refine Body.seq ?_
        refine Body.region ?_
        refine Ops.u (Dtu.mv (lk rfl)) rfl ?_
        refine Ops.u (Dtu.bit rfl (lk rfl) (lk rfl) (by with_reducible assumption)) rfl ?_
        refine Ops.u (Dtu.eql (lk rfl) (lk rfl)) rfl ?_
        refine Ops.nil ?_
        refine Then.next ?_
        refine Body.condP (lk rfl) (fun hy => absurd hy (by first | omega | assumption | decide)) (fun _ => ?_)
        refine Body.region ?_
        refine Ops.u (Dtu.mv (lk rfl)) rfl ?_
        refine Ops.u (Dtu.shr (lk rfl) (lk rfl) (by first | decide | omega) (by with_reducible assumption)) rfl ?_
        refine Ops.u (Dtu.asg (lk rfl)) rfl ?_
        refine Ops.nil ?_
        refine Blk.norm ?_
        refine Then.next ?_
        refine Body.region ?_
        refine Ops.u (Dtu.add (lk rfl) (lk rfl) (w64 (by omega) (by omega))) rfl ?_
        refine Ops.u (Dtu.mv (lk rfl)) rfl ?_
        refine Ops.nil ?_
        refine Round.goL [0] (k + 1) rfl ⟨rfl, by (try dsimp only); rw [h4]; try rfl, trivial⟩ rfl rfl hlk (by omega)
    · have h8 : k = 8 := by omega
      subst h8
      have hP := smC_put 0 1 (crTab i) 0 (crT i) (by simp [crTab]) hlt
      rw [crTab_set hlt] at hP
      refine Body.seq ?_
      refine Body.region ?_
      refine Ops.u (Dtu.lss (lk rfl) (lk rfl)) rfl ?_
      refine Ops.nil ?_
      refine Then.next ?_
      refine Body.seq ?_
      refine Body.condP (lk rfl) (fun hy => absurd hy (by first | omega | assumption | decide)) (fun _ => ?_)
      refine Body.exit ?_
      refine Then.exit ?_
      refine Round.exit ?_
      refine Blk.here ?_
      refine Then.next ?_
      refine Body.region ?_
      refine Ops.u (Dtu.mv (lk rfl)) rfl ?_
      refine Ops.u (Dtu.mv (lk rfl)) rfl ?_
      refine Ops.u (Dtu.mv (lk rfl)) rfl ?_
      refine Ops.u (Dtu.nilck (lk rfl)) rfl ?_
      refine Ops.u (Dtu.fld fa195_1 (lk rfl)) rfl ?_
      refine Ops.u (Dtu.ixa (i := (i)) Try.underlying190 Try.sizeOf35 (lk rfl) (lk rfl) (by omega) (by omega)) rfl ?_
      refine Ops.e (Stp.storeC 0 hP (by omega) Try.sizeOf35 (lk rfl) (lk rfl) rfl rfl rfl rfl rfl ?_)
      refine Ops.nil ?_
      refine Blk.norm ?_
      refine Then.next ?_
      refine Body.region ?_
      refine Ops.u (Dtu.add (lk rfl) (lk rfl) (w64 (by omega) (by omega))) rfl ?_
      refine Ops.u (Dtu.mv (lk rfl)) rfl ?_
      refine Ops.nil ?_
      refine Round.goL [0] (i + 1) rfl ⟨rfl, trivial⟩ rfl rfl hlt (by omega)
  · have h8 : i = 256 := by omega
    subst h8
    refine Body.seq ?_
    refine Body.region ?_
    refine Ops.u (Dtu.lss (lk rfl) (lk rfl)) rfl ?_
    refine Ops.nil ?_
    refine Then.next ?_
    refine Body.seq ?_
    refine Body.condP (lk rfl) (fun hy => absurd hy (by first | omega | assumption | decide)) (fun _ => ?_)
    refine Body.exit ?_
    refine Then.exit ?_
    refine Round.exit ?_
    refine Blk.here ?_
    exact ⟨.inl rfl, _, pk [0] rfl, rfl, rfl⟩
def crZ (v : Nat) (bs : List Int) : Nat := crF v (bs.map Int.toNat)
theorem xor8_n {x y : Nat} (hx : x < 2 ^ 8) (hy : y < 2 ^ 8) : ibit .xor .u8 (x : Int) (y : Int) = ((x ^^^ y : Nat) : Int) := by
  have e : ∀ v : Nat, BitVec.ofInt 8 (v : Int) = BitVec.ofNat 8 v := fun v => BitVec.ofInt_natCast ..
  show IntKind.u8.wrap ((BitVec.ofInt 8 (x : Int) ^^^ BitVec.ofInt 8 (y : Int)).toNat : Int) = _
  rw [e, e, wu8 (by omega) (by have := BitVec.isLt (BitVec.ofNat 8 x ^^^ BitVec.ofNat 8 y); omega), BitVec.toNat_xor, BitVec.toNat_ofNat, BitVec.toNat_ofNat, Nat.mod_eq_of_lt hx, Nat.mod_eq_of_lt hy]
theorem wrap8_n (x : Nat) : IntKind.u8.wrap (x : Int) = ((x % 256 : Nat) : Int) := by
  show (x : Int) % 256 = _
  omega
theorem smC_tab (d m n : Int) {j : Nat} (hj : j < 256) : (smC d m (crTab 256) n)[3 + j]? = some (.int .u32 (crT j : Nat)) := by
  unfold smC
  rw [List.getElem?_append_left (by simp [crTab]; omega), show 3 + j = j + 1 + 1 + 1 by omega]
  simp only [List.getElem?_cons_succ, List.getElem?_map, crTab]
  rw [List.getElem?_range hj]
  simp [hj]
theorem crZ_step {v : Nat} {bs : List Int} {k : Nat} (h : k < bs.length) : crZ v (bs.take (k + 1)) = crS (crZ v (bs.take k)) bs[k]!.toNat := by
  rw [crZ, List.take_succ_eq_append_getElem h, List.map_append, crF, List.foldl_append, getElem!_pos bs k h]; rfl
theorem crZ_lt {bs : List Int} (hb : ∀ i, i < bs.length → 0 ≤ bs[i]! ∧ bs[i]! < 256) (k : Nat) : crZ 4294967295 (bs.take k) < 4294967296 := by
  refine crF_lt (fun c hc => ?_) (by omega)
  obtain ⟨x, hx, rfl⟩ := List.mem_map.1 hc
  obtain ⟨i, hi, rfl⟩ := List.getElem_of_mem (List.mem_of_mem_take hx)
  have := hb i hi
  rw [getElem!_pos bs i hi] at this
  omega
theorem more_ok (E : Env) (b : Nat) (v : Value) (bs : List Int) (hs : Sl E [] 1 v bs.length (bs.map (.int .u8))) (hb : ∀ i, i < bs.length → 0 ≤ bs[i]! ∧ bs[i]! < 256) : Does Try.prog 114 #[.pointer (some ⟨b, 0, none⟩), .int .u32 0, v] E ([own b (smC 0 0 (crTab 0) 0) 195]) fun r H' => r = .int .u32 (crOf (bs.map Int.toNat) : Nat) ∧ H' = [] := by
  refine Does.pure hs.up.len fun hlen => ?_
  refine Does.go _ _ Try.func114 rfl Try.ntmps114 rfl rfl ?_
  skip
  refine Body.seq ?_
  refine Body.region ?_
  refine Ops.u (Dtu.asg (lk rfl)) rfl ?_
  refine Ops.nil ?_
  refine Then.next ?_
  refine Body.seq ?_
  refine Body.seq ?_
  refine Body.region ?_
  refine Ops.u (Dtu.mv (lk rfl)) rfl ?_
  refine Ops.u (Dtu.eqNil Try.underlying178 (lk rfl) (lk rfl)) rfl ?_
  refine Ops.nil ?_
  refine Then.next ?_
  refine Body.condF (lk rfl) ?_
  refine Body.skip ?_
  refine Then.next ?_
  refine Body.seq ?_
  refine Body.region ?_
  refine Ops.u (Dtu.mv (lk rfl)) rfl ?_
  refine Ops.u (Dtu.nilck (lk rfl)) rfl ?_
  refine Ops.u (Dtu.fld fa195_0 (lk rfl)) rfl ?_
  refine Ops.u (Dtu.mv (lk rfl)) rfl ?_
  refine Ops.u (Dtu.mkfF (lks rfl)) rfl ?_
  refine Ops.s (Stp.callOwn [0] rfl rfl Try.call119 (lks rfl) (fun E' le hat => once_do (fill_ok E' _)) ?_) rfl
  rintro _ _ ⟨rfl, rfl⟩
  refine Ops.nil ?_
  refine Then.next ?_
  refine Body.seq ?_
  refine Body.region ?_
  refine Ops.u (Dtu.mv (lk rfl)) rfl ?_
  refine Ops.u (Dtu.nilck (lk rfl)) rfl ?_
  refine Ops.u (Dtu.fld fa195_2 (lk rfl)) rfl ?_
  refine Ops.s (Stp.callOwn [0] rfl rfl Try.call121 (lks rfl) (fun E' le hat => runs_add (by simp [crTab])) ?_) rfl
  rintro _ _ ⟨rfl, rfl⟩
  refine Ops.nil ?_
  refine Then.next ?_
  refine Body.seq ?_
  refine Body.region ?_
  refine Ops.u (Dtu.mv (lk rfl)) rfl ?_
  refine Ops.u (Dtu.cpl (lk rfl) rfl) rfl ?_
  refine Ops.u (Dtu.asg (lk rfl)) rfl ?_
  refine Ops.nil ?_
  refine Then.next ?_
  refine Body.seq ?_
  refine Body.seq ?_
  refine Body.region ?_
  refine Ops.u (Dtu.mv (lk rfl)) rfl ?_
  refine Ops.u (Dtu.lenS Try.underlying73 (Sl.up hs) (lk rfl)) rfl ?_
  refine Ops.u (Dtu.mv (lk rfl)) rfl ?_
  refine Ops.nil ?_
  refine Then.next ?_
  refine Body.block ?_
  refine Body.loopL (γ := Nat) [0, 1, 2, 6, 26, 27] rfl (fun k => [(28, .int .i64 (k : Nat)), (7, .int .u32 (crZ 4294967295 (bs.take k) : Nat))]) (fun k => []) (fun _ => rfl) (fun _ _ => rfl) (fun k => k ≤ bs.length) (fun k => bs.length - k) (0) (Nat.zero_le _) ⟨rfl, rfl, trivial⟩ rfl ?_
  rintro k u hk
  by_cases hlt : k < bs.length
  · have hV := crZ_lt hb k
    have hst := crZ_step (v := 4294967295) hlt
    obtain ⟨c, hc⟩ := Int.eq_ofNat_of_zero_le (hb k hlt).1
    have hc2 := (hb k hlt).2
    rw [hc, Int.toNat_natCast] at hst
    generalize crZ 4294967295 (bs.take k) = V at *
    have h1 := wrap8_n V
    have h2 : ibit .xor .u8 ((V % 256 : Nat) : Int) bs[k]! = ((V % 256 ^^^ c : Nat) : Int) := by rw [hc]; exact xor8_n (by omega) (by omega)
    have hx : V % 256 ^^^ c < 256 := xor256 (by omega) (by omega)
    have h3 := smC_tab 1 0 1 hx
    have h4 : ((V : Nat) : Int).fdiv (2 ^ min (Int.toNat 8) IntKind.u32.bits) = ((V / 256 : Nat) : Int) := by
      show Int.fdiv _ 256 = _
      rw [Int.fdiv_eq_ediv_of_nonneg _ (by decide)]; omega
    have h5 : ibit .xor .u32 ((V / 256 : Nat) : Int) ((crT (V % 256 ^^^ c) : Nat) : Int) = ((crS V c : Nat) : Int) := xor32_n (by omega) (crN_lt 8 (by omega))
    refine Body.seq ?_
    refine Body.region ?_
    refine Ops.u (Dtu.lss (lk rfl) (lk rfl)) rfl ?_
    refine Ops.nil ?_
    refine Then.next ?_
    refine Body.seq ?_
    refine Body.condP (lk rfl) (fun _ => ?_) (fun hn => absurd (by first | omega | assumption | decide) hn)
    refine Body.skip ?_
    refine Then.next ?_
    refine Body.seq ?_
    refine Body.block ?_
    refine Body.seq ?_
    refine Body.region ?_
    refine Ops.u (Dtu.ix (i := (k)) Try.underlying73 Try.sizeOf5 (Sl.up hs) (lk rfl) (lk rfl) (by omega) (by omega)) rfl ?_
    refine Ops.d (Det.ld Try.isAgg5 (lk rfl) (Rd.sl (Sl.up hs) (gm (by omega)))) rfl ?_
    refine Ops.u (Dtu.asg (lk rfl)) rfl ?_
    refine Ops.nil ?_
    refine Then.next ?_
    refine Body.region ?_
    refine Ops.u (Dtu.mv (lk rfl)) rfl ?_
    refine Ops.u (Dtu.shr (lk rfl) (lk rfl) (by first | decide | omega) (by with_reducible assumption)) rfl ?_
    refine Ops.u (Dtu.mv (lk rfl)) rfl ?_
    refine Ops.u (Dtu.mv (lk rfl)) rfl ?_
    refine Ops.u (Dtu.cvt Try.underlying35 Try.underlying5 (lk rfl) (by with_reducible assumption)) rfl ?_
    refine Ops.u (Dtu.mv (lk rfl)) rfl ?_
    refine Ops.u (Dtu.bit rfl (lk rfl) (lk rfl) (by with_reducible assumption)) rfl ?_
    refine Ops.u (Dtu.nilck (lk rfl)) rfl ?_
    refine Ops.u (Dtu.fld fa195_1 (lk rfl)) rfl ?_
    refine Ops.u (Dtu.ixa (i := (V % 256 ^^^ c)) Try.underlying190 Try.sizeOf35 (lk rfl) (lk rfl) (by omega) (by omega)) rfl ?_
    refine Ops.d (Det.ld Try.isAgg35 (lk rfl) (Rd.ow 0 rfl (cellEq h3 (by omega)))) rfl ?_
    refine Ops.u (Dtu.bit rfl (lk rfl) (lk rfl) (by with_reducible assumption)) rfl ?_
    refine Ops.u (Dtu.asg (lk rfl)) rfl ?_
    refine Ops.nil ?_
    refine Blk.norm ?_
    refine Then.next ?_
    refine Body.region ?_
    refine Ops.u (Dtu.add (lk rfl) (lk rfl) (w64 (by omega) (by omega))) rfl ?_
    refine Ops.u (Dtu.mv (lk rfl)) rfl ?_
    refine Ops.nil ?_
    refine Round.goL [0] (k + 1) rfl ⟨rfl, by (try dsimp only); rw [hst]; try rfl, trivial⟩ rfl rfl hlt (by omega)
  · have hk2 : k = bs.length := by omega
    subst hk2
    rw [List.take_length]
    have hV := crZ_lt hb bs.length
    rw [List.take_length] at hV
    have h6 : ibit .xor .u32 (if IntKind.u32.signed = true then -1 else IntKind.u32.max) ((crZ 4294967295 bs : Nat) : Int) = ((crOf (bs.map Int.toNat) : Nat) : Int) := by
      show ibit .xor .u32 ((4294967295 : Nat) : Int) _ = _
      rw [xor32_n (by decide) hV, Nat.xor_comm]; rfl
    refine Body.seq ?_
    refine Body.region ?_
    refine Ops.u (Dtu.lss (lk rfl) (lk rfl)) rfl ?_
    refine Ops.nil ?_
    refine Then.next ?_
    refine Body.seq ?_
    refine Body.condP (lk rfl) (fun hy => absurd hy (by first | omega | assumption | decide)) (fun _ => ?_)
    refine Body.exit ?_
    refine Then.exit ?_
    refine Round.exit ?_
    refine Blk.here ?_
    refine Then.next ?_
    refine Body.seq ?_
    refine Body.region ?_
    refine Ops.u (Dtu.mv (lk rfl)) rfl ?_
    refine Ops.u (Dtu.cpl (lk rfl) rfl) rfl ?_
    refine Ops.u (Dtu.asg (lk rfl)) rfl ?_
    refine Ops.nil ?_
    refine Then.next ?_
    refine Body.ret ?_
    (exact ⟨.inr rfl, _, pk [] rfl, congrArg (Value.int .u32) h6, rfl⟩)
theorem crc_ok (E : Env) (v : Value) (bs : List Int) (hs : Sl E [] 1 v bs.length (bs.map (.int .u8))) (hb : ∀ i, i < bs.length → 0 ≤ bs[i]! ∧ bs[i]! < 256) : Does Try.prog 106 #[v] E ([]) fun r H' => r = .int .u32 (crOf (bs.map Int.toNat) : Nat) ∧ H' = [] := by
  refine Does.go _ _ Try.func106 rfl Try.ntmps106 rfl rfl ?_
  skip
  refine Body.seq ?_
  refine Body.region ?_
  refine Ops.u (Dtu.asg (lk rfl)) rfl ?_
  refine Ops.nil ?_
  refine Then.next ?_
  refine Body.seq ?_
  refine Body.region ?_
  refine Ops.u (Dtu.build ty195 pl195 (lkp rfl) rfl rfl) rfl ?_
  refine Ops.s (Stp.box (lk rfl) rfl (fun b5 => ?_)) rfl
  refine Ops.u (Dtu.asg (lk rfl)) rfl ?_
  refine Ops.nil ?_
  refine Then.next ?_
  refine Body.seq ?_
  refine Body.region ?_
  refine Ops.u (Dtu.mv (lk rfl)) rfl ?_
  refine Ops.u (Dtu.mv (lk rfl)) rfl ?_
  refine Ops.s (Stp.callOwn [0] rfl rfl Try.call114 (lks rfl) (fun E' le hat => more_ok E' _ _ bs (by first | exact Sl.mono (by assumption) le | exact Sl.hatI hat 0 rfl | exact Sl.hatI hat 1 rfl | exact Sl.hatI hat 2 rfl | exact Sl.hatI hat 3 rfl | exact Sl.hatI hat 4 rfl | exact Sl.hatI hat 5 rfl | exact Sl.hatI hat 6 rfl | exact Sl.hatI hat 7 rfl | exact Sl.hatI hat 8 rfl | exact Sl.hatI hat 9 rfl | exact Sl.hatI hat 10 rfl | exact Sl.hatI hat 11 rfl | exact Sl.hatI hat 12 rfl | exact Sl.hatI hat 13 rfl | exact Sl.hatI hat 14 rfl | exact Sl.hatI hat 15 rfl | exact Sl.hatW hat 0 rfl | exact Sl.hatW hat 1 rfl | exact Sl.hatW hat 2 rfl | exact Sl.hatW hat 3 rfl | exact Sl.hatW hat 4 rfl | exact Sl.hatW hat 5 rfl | exact Sl.hatW hat 6 rfl | exact Sl.hatW hat 7 rfl | exact Sl.hatW hat 8 rfl | exact Sl.hatW hat 9 rfl) hb) ?_) rfl
  rintro _ _ ⟨rfl, rfl⟩
  refine Ops.u (Dtu.asg (lk rfl)) rfl ?_
  refine Ops.nil ?_
  refine Then.next ?_
  refine Body.ret ?_
  exact ⟨.inr rfl, _, pk [] rfl, rfl, rfl⟩
end Go.Proofs.Ytpmapedhigjalaa
end
section
/- store: a file in memory; sound. -/
namespace Go.Proofs.Ytpmapedhigjalaa
set_option maxRecDepth 100000
set_option maxHeartbeats 4000000
set_option linter.unusedVariables false
set_option linter.unusedSimpArgs false
open Go.Sx
/-- a chunk that was written: its bytes now, and the sum that they had -/
structure Kc where
  i : Int
  d : List Int
  s : Nat
/-- in memory -/
structure Ch where
  k : Kc
  v : Value
def Ch.own (c : Ch) : HProp := osl 5 1 c.v c.k.d.length (c.k.d.map (.int .u8))
def Ch.val (c : Ch) : Value := .agg #[c.v, .int .u32 (c.k.s : Nat)]
def Kc.good (c : Kc) : Bool := decide (crOf (c.d.map Int.toNat) = c.s)
def chm (l : List Ch) : ML := l.map fun c => (c.k.i, c.val)
def cget : List Kc → Int → Option Kc
  | [], _ => none
  | c :: l, i => if i = c.i then some c else cget l i
def cput : List Kc → Kc → List Kc
  | [], c => [c]
  | x :: l, c => if c.i = x.i then c :: l else x :: cput l c
def hput : List Ch → Ch → List Ch
  | [], c => [c]
  | x :: l, c => if c.k.i = x.k.i then c :: l else x :: hput l c
theorem hput_k (l : List Ch) (c : Ch) : (hput l c).map Ch.k = cput (l.map Ch.k) c.k := by
  induction l with
  | nil => rfl
  | cons x l ih =>
    simp only [hput, cput, List.map_cons]
    split
    · rfl
    · rw [List.map_cons, ih]
theorem hput_m (l : List Ch) (c : Ch) : mput (chm l) c.k.i c.val = chm (hput l c) := by
  induction l with
  | nil => rfl
  | cons x l ih =>
    simp only [chm, hput, mput, List.map_cons]
    split
    · rename_i h; rw [List.map_cons, h]
    · rw [List.map_cons]; exact congrArg _ ih
theorem chm_none {l : List Ch} {i : Int} (h : cget (l.map Ch.k) i = none) : mget (chm l) i = none := by
  induction l with
  | nil => rfl
  | cons x l ih =>
    simp only [List.map_cons, cget] at h
    simp only [chm, List.map_cons, mget]
    split at h
    · cases h
    · rename_i hn; rw [if_neg hn]; exact ih h
theorem chm_some {l : List Ch} {i : Int} {k : Kc} (h : cget (l.map Ch.k) i = some k) : ∃ A c C, l = A ++ c :: C ∧ c.k = k ∧ c.k.i = i ∧ mget (chm l) i = some c.val := by
  induction l with
  | nil => cases h
  | cons x l ih =>
    simp only [List.map_cons, cget] at h
    simp only [chm, List.map_cons, mget]
    split at h
    · rename_i hn
      exact ⟨[], x, l, rfl, Option.some.inj h, hn.symm, by rw [if_pos hn]⟩
    · rename_i hn
      obtain ⟨A, c, C, rfl, h1, h2, h3⟩ := ih h
      exact ⟨x :: A, c, C, rfl, h1, h2, by rw [if_neg hn]; exact h3⟩
/-- one more: those that it takes the place of are gone -/
theorem hput_sub (l : List Ch) (c : Ch) : ∃ M, (c :: l).Perm M ∧ (hput l c).Sublist M := by
  induction l with
  | nil => exact ⟨[c], List.Perm.refl _, List.Sublist.refl _⟩
  | cons x l ih =>
    simp only [hput]
    split
    · exact ⟨c :: x :: l, List.Perm.refl _, (List.sublist_cons_self x l).cons_cons c⟩
    · obtain ⟨M, h1, h2⟩ := ih
      exact ⟨x :: M, (List.Perm.swap _ _ _).trans (h1.cons x), h2.cons_cons x⟩
theorem hput_own {E : Env} {l : List Ch} {c : Ch} {H : List HProp} {w : World} (s : St E (c.own :: many (l.map Ch.own) :: H) w) : St E (many ((hput l c).map Ch.own) :: H) w := by
  obtain ⟨M, h1, h2⟩ := hput_sub l c
  exact poolSub (h2.map Ch.own) (poolPerm (h1.map Ch.own) (poolCons s))
/-- a file -/
structure Fi where
  id : Int
  nm : ByteArray
  sz : Int
  sm : Nat → Int
  cs : List Kc
structure Fi.Ok (F : Fi) : Prop where
  r : infoR F.id F.nm F.sz = true
  cs : ∀ c ∈ F.cs, 0 ≤ c.i ∧ c.i < chZ F.sz ∧ c.d.length = lenZ F.sz c.i ∧ Byt c.d
def Fi.good (F : Fi) (i : Int) : Bool := match cget F.cs i with
  | some c => c.good
  | none => false
theorem cget_mem {l : List Kc} {i : Int} {c : Kc} (h : cget l i = some c) : c ∈ l ∧ c.i = i := by
  induction l with
  | nil => cases h
  | cons x l ih =>
    simp only [cget] at h
    split at h
    · rename_i hn; obtain rfl := Option.some.inj h; exact ⟨.head _, hn.symm⟩
    · obtain ⟨h1, h2⟩ := ih h; exact ⟨.tail _ h1, h2⟩
/-- what owns a file -/
def filA (b : Nat) (F : Fi) (a : Nat × List Ch) : List HProp := match a with
  | (y, cs) => [own b (.int .u64 F.id :: .string F.nm :: .int .i64 F.sz :: .int .u8 (F.sm 0) :: .int .u8 (F.sm 1) :: .int .u8 (F.sm 2) :: .int .u8 (F.sm 3) :: .int .u8 (F.sm 4) :: .int .u8 (F.sm 5) :: .int .u8 (F.sm 6) :: .int .u8 (F.sm 7) :: .int .u8 (F.sm 8) :: .int .u8 (F.sm 9) :: .int .u8 (F.sm 10) :: .int .u8 (F.sm 11) :: .int .u8 (F.sm 12) :: .int .u8 (F.sm 13) :: .int .u8 (F.sm 14) :: .int .u8 (F.sm 15) :: .int .u8 (F.sm 16) :: .int .u8 (F.sm 17) :: .int .u8 (F.sm 18) :: .int .u8 (F.sm 19) :: .int .u8 (F.sm 20) :: .int .u8 (F.sm 21) :: .int .u8 (F.sm 22) :: .int .u8 (F.sm 23) :: .int .u8 (F.sm 24) :: .int .u8 (F.sm 25) :: .int .u8 (F.sm 26) :: .int .u8 (F.sm 27) :: .int .u8 (F.sm 28) :: .int .u8 (F.sm 29) :: .int .u8 (F.sm 30) :: .int .u8 (F.sm 31) :: .map (some y) :: []) 158, omp .i64 y (chm cs), many (cs.map Ch.own)]
def filP (b : Nat) (F : Fi) : HProp := exO (fun a : Nat × List Ch => a.2.map Ch.k = F.cs ∧ F.Ok) (filA b F)
theorem filAt {E : Env} {b : Nat} {F : Fi} (h : At (filP b F) E) : ∃ y cs, cs.map Ch.k = F.cs ∧ F.Ok ∧ At (own b (.int .u64 F.id :: .string F.nm :: .int .i64 F.sz :: .int .u8 (F.sm 0) :: .int .u8 (F.sm 1) :: .int .u8 (F.sm 2) :: .int .u8 (F.sm 3) :: .int .u8 (F.sm 4) :: .int .u8 (F.sm 5) :: .int .u8 (F.sm 6) :: .int .u8 (F.sm 7) :: .int .u8 (F.sm 8) :: .int .u8 (F.sm 9) :: .int .u8 (F.sm 10) :: .int .u8 (F.sm 11) :: .int .u8 (F.sm 12) :: .int .u8 (F.sm 13) :: .int .u8 (F.sm 14) :: .int .u8 (F.sm 15) :: .int .u8 (F.sm 16) :: .int .u8 (F.sm 17) :: .int .u8 (F.sm 18) :: .int .u8 (F.sm 19) :: .int .u8 (F.sm 20) :: .int .u8 (F.sm 21) :: .int .u8 (F.sm 22) :: .int .u8 (F.sm 23) :: .int .u8 (F.sm 24) :: .int .u8 (F.sm 25) :: .int .u8 (F.sm 26) :: .int .u8 (F.sm 27) :: .int .u8 (F.sm 28) :: .int .u8 (F.sm 29) :: .int .u8 (F.sm 30) :: .int .u8 (F.sm 31) :: .map (some y) :: []) 158) E ∧ Mp E [] .i64 y (chm cs) ∧ At (many (cs.map Ch.own)) E := by
  obtain ⟨⟨y, cs⟩, ⟨h1, h2⟩, h3⟩ := exO_at h
  exact ⟨y, cs, h1, h2, h3 _ (.head _), Mp.at (h3 _ (.tail _ (.head _))), h3 _ (.tail _ (.tail _ (.head _)))⟩
theorem sound_n (E : Env) (b y : Nat) (F : Fi) (i : Int) (l : List Ch) (hA : At (own b (.int .u64 F.id :: .string F.nm :: .int .i64 F.sz :: .int .u8 (F.sm 0) :: .int .u8 (F.sm 1) :: .int .u8 (F.sm 2) :: .int .u8 (F.sm 3) :: .int .u8 (F.sm 4) :: .int .u8 (F.sm 5) :: .int .u8 (F.sm 6) :: .int .u8 (F.sm 7) :: .int .u8 (F.sm 8) :: .int .u8 (F.sm 9) :: .int .u8 (F.sm 10) :: .int .u8 (F.sm 11) :: .int .u8 (F.sm 12) :: .int .u8 (F.sm 13) :: .int .u8 (F.sm 14) :: .int .u8 (F.sm 15) :: .int .u8 (F.sm 16) :: .int .u8 (F.sm 17) :: .int .u8 (F.sm 18) :: .int .u8 (F.sm 19) :: .int .u8 (F.sm 20) :: .int .u8 (F.sm 21) :: .int .u8 (F.sm 22) :: .int .u8 (F.sm 23) :: .int .u8 (F.sm 24) :: .int .u8 (F.sm 25) :: .int .u8 (F.sm 26) :: .int .u8 (F.sm 27) :: .int .u8 (F.sm 28) :: .int .u8 (F.sm 29) :: .int .u8 (F.sm 30) :: .int .u8 (F.sm 31) :: .map (some y) :: []) 158) E) (hM : Mp E [] .i64 y (chm l)) (hn : mget (chm l) i = none) : Does Try.prog 107 #[.pointer (some ⟨b, 0, none⟩), .int .i64 i] E ([]) fun r H' => r = .bool false ∧ H' = [] := by
  refine Does.go _ _ Try.func107 rfl Try.ntmps107 rfl rfl ?_
  skip
  refine Body.seq ?_
  refine Body.region ?_
  refine Ops.u (Dtu.asg (lk rfl)) rfl ?_
  refine Ops.nil ?_
  refine Then.next ?_
  refine Body.seq ?_
  refine Body.region ?_
  refine Ops.u (Dtu.mv (lk rfl)) rfl ?_
  refine Ops.u (Dtu.nilck (lk rfl)) rfl ?_
  refine Ops.u (Dtu.fld fa158_1 (lk rfl)) rfl ?_
  refine Ops.d (Det.ld Try.isAgg156 (lk rfl) (Rd.env (own_at hA rfl))) rfl ?_
  refine Ops.u (Dtu.mv (lk rfl)) rfl ?_
  refine Ops.d (Det.look2N Try.underlying156 Try.underlying3 (Mp.up hM) (lk rfl) (lk rfl) (by with_reducible assumption) zv166) rfl ?_
  refine Ops.u (Dtu.mv (lk rfl)) rfl ?_
  refine Ops.u (Dtu.ext (lk rfl) rfl) rfl ?_
  refine Ops.u (Dtu.ext (lk rfl) rfl) rfl ?_
  refine Ops.s (Stp.alloc ty166 (fun b5 => ?_)) rfl
  refine Ops.e (Stp.store 0 Try.sizeOf166 (lk rfl) (lk rfl) rfl rfl rfl rfl rfl rfl rfl ?_)
  refine Ops.u (Dtu.asg (lk rfl)) rfl ?_
  refine Ops.nil ?_
  refine Then.next ?_
  refine Body.seq ?_
  refine Body.draw mixed ?_
  refine AB.u 0 rfl (by decide +kernel) (Dtu.mv (lk rfl)) rfl ?_
  refine AB.u 1 rfl (by decide +kernel) (Dtu.mv (lk rfl)) rfl ?_
  refine AB.gn 2 rfl (by decide +kernel) rfl rfl rfl rfl rfl ?_
  refine AB.gn 3 rfl (by decide +kernel) rfl rfl rfl rfl rfl ?_
  refine AB.gn 4 rfl (by decide +kernel) rfl rfl rfl rfl rfl ?_
  refine AB.gn 5 rfl (by decide +kernel) rfl rfl rfl rfl rfl ?_
  refine AB.gn 6 rfl (by decide +kernel) rfl rfl rfl rfl rfl ?_
  refine AB.gn 7 rfl (by decide +kernel) rfl rfl rfl rfl rfl ?_
  refine AB.u 8 rfl (by decide +kernel) (Dtu.pickF (lk rfl) (lk rfl)) rfl ?_
  refine AB.u 9 rfl (by decide +kernel) (Dtu.asg (lk rfl)) rfl ?_
  refine AB.done (by decide +kernel) ?_
  refine Then.next ?_
  refine Body.ret ?_
  exact ⟨.inr rfl, _, pk [] rfl, rfl, rfl⟩
theorem sound_y (E : Env) (b y : Nat) (F : Fi) (i : Int) (l : List Ch) (v : Value) (d : List Int) (s : Nat) (hA : At (own b (.int .u64 F.id :: .string F.nm :: .int .i64 F.sz :: .int .u8 (F.sm 0) :: .int .u8 (F.sm 1) :: .int .u8 (F.sm 2) :: .int .u8 (F.sm 3) :: .int .u8 (F.sm 4) :: .int .u8 (F.sm 5) :: .int .u8 (F.sm 6) :: .int .u8 (F.sm 7) :: .int .u8 (F.sm 8) :: .int .u8 (F.sm 9) :: .int .u8 (F.sm 10) :: .int .u8 (F.sm 11) :: .int .u8 (F.sm 12) :: .int .u8 (F.sm 13) :: .int .u8 (F.sm 14) :: .int .u8 (F.sm 15) :: .int .u8 (F.sm 16) :: .int .u8 (F.sm 17) :: .int .u8 (F.sm 18) :: .int .u8 (F.sm 19) :: .int .u8 (F.sm 20) :: .int .u8 (F.sm 21) :: .int .u8 (F.sm 22) :: .int .u8 (F.sm 23) :: .int .u8 (F.sm 24) :: .int .u8 (F.sm 25) :: .int .u8 (F.sm 26) :: .int .u8 (F.sm 27) :: .int .u8 (F.sm 28) :: .int .u8 (F.sm 29) :: .int .u8 (F.sm 30) :: .int .u8 (F.sm 31) :: .map (some y) :: []) 158) E) (hM : Mp E [] .i64 y (chm l)) (hn : mget (chm l) i = some (.agg #[v, .int .u32 (s : Nat)])) (hc : Sl E [] 1 v d.length (d.map (.int .u8))) (hb : Byt d) : Does Try.prog 107 #[.pointer (some ⟨b, 0, none⟩), .int .i64 i] E ([]) fun r H' => r = .bool (decide (crOf (d.map Int.toNat) = s)) ∧ H' = [] := by
  refine Does.pure (Sl.shape hc) fun ⟨va, vc, hv⟩ => ?_
  subst hv
  refine Does.go _ _ Try.func107 rfl Try.ntmps107 rfl rfl ?_
  skip
  have e : decide (((crOf (d.map Int.toNat) : Nat) : Int) = (s : Int)) = decide (crOf (d.map Int.toNat) = s) := decide_eq_decide.2 Int.ofNat_inj
  refine Body.seq ?_
  refine Body.region ?_
  refine Ops.u (Dtu.asg (lk rfl)) rfl ?_
  refine Ops.nil ?_
  refine Then.next ?_
  refine Body.seq ?_
  refine Body.region ?_
  refine Ops.u (Dtu.mv (lk rfl)) rfl ?_
  refine Ops.u (Dtu.nilck (lk rfl)) rfl ?_
  refine Ops.u (Dtu.fld fa158_1 (lk rfl)) rfl ?_
  refine Ops.d (Det.ld Try.isAgg156 (lk rfl) (Rd.env (own_at hA rfl))) rfl ?_
  refine Ops.u (Dtu.mv (lk rfl)) rfl ?_
  refine Ops.d (Det.look2Y Try.underlying156 Try.underlying3 (Mp.up hM) (lk rfl) (lk rfl) (by with_reducible assumption)) rfl ?_
  refine Ops.u (Dtu.mv (lk rfl)) rfl ?_
  refine Ops.u (Dtu.ext (lk rfl) rfl) rfl ?_
  refine Ops.u (Dtu.ext (lk rfl) rfl) rfl ?_
  refine Ops.s (Stp.alloc ty166 (fun b5 => ?_)) rfl
  refine Ops.e (Stp.store 0 Try.sizeOf166 (lk rfl) (lk rfl) rfl rfl rfl rfl rfl rfl rfl ?_)
  refine Ops.u (Dtu.asg (lk rfl)) rfl ?_
  refine Ops.nil ?_
  refine Then.next ?_
  refine Body.seq ?_
  refine Body.draw mixed ?_
  refine AB.u 0 rfl (by decide +kernel) (Dtu.mv (lk rfl)) rfl ?_
  refine AB.u 1 rfl (by decide +kernel) (Dtu.mv (lk rfl)) rfl ?_
  refine AB.gu 2 rfl (by decide +kernel) rfl rfl rfl (Dtu.fld fa166_0 (lk rfl)) rfl ?_
  refine AB.gd 3 rfl (by decide +kernel) rfl rfl rfl rfl (Det.ld Try.isAgg73 (lk rfl) (Rd.ow 0 rfl rfl)) rfl ?_
  refine AB.gu 5 rfl (by decide +kernel) rfl rfl rfl (Dtu.fld fa166_1 (lk rfl)) rfl ?_
  refine AB.gd 6 rfl (by decide +kernel) rfl rfl rfl rfl (Det.ld Try.isAgg35 (lk rfl) (Rd.ow 0 rfl rfl)) rfl ?_
  refine AB.gs 4 rfl (by decide +kernel) (by decide +kernel) rfl rfl rfl (Stp.call rfl Try.call106 (lks rfl) (fun E' le hat => crc_ok E' _ _ (by first | exact Sl.mono (by assumption) le | exact Sl.hatI hat 0 rfl | exact Sl.hatI hat 1 rfl | exact Sl.hatI hat 2 rfl | exact Sl.hatI hat 3 rfl | exact Sl.hatI hat 4 rfl | exact Sl.hatI hat 5 rfl | exact Sl.hatI hat 6 rfl | exact Sl.hatI hat 7 rfl | exact Sl.hatI hat 8 rfl | exact Sl.hatI hat 9 rfl | exact Sl.hatI hat 10 rfl | exact Sl.hatI hat 11 rfl | exact Sl.hatI hat 12 rfl | exact Sl.hatI hat 13 rfl | exact Sl.hatI hat 14 rfl | exact Sl.hatI hat 15 rfl | exact Sl.hatW hat 0 rfl | exact Sl.hatW hat 1 rfl | exact Sl.hatW hat 2 rfl | exact Sl.hatW hat 3 rfl | exact Sl.hatW hat 4 rfl | exact Sl.hatW hat 5 rfl | exact Sl.hatW hat 6 rfl | exact Sl.hatW hat 7 rfl | exact Sl.hatW hat 8 rfl | exact Sl.hatW hat 9 rfl) (by assumption)) ?_) rfl
  rintro _ _ ⟨rfl, rfl⟩
  refine AB.gu 7 rfl (by decide +kernel) rfl rfl rfl (Dtu.eql (lk rfl) (lk rfl)) rfl ?_
  refine AB.u 8 rfl (by decide +kernel) (Dtu.pickT (lk rfl) (lk rfl)) rfl ?_
  refine AB.u 9 rfl (by decide +kernel) (Dtu.asg (lk rfl)) rfl ?_
  refine AB.done (by decide +kernel) ?_
  refine Then.next ?_
  refine Body.ret ?_
  exact ⟨.inr rfl, _, pk [] rfl, congrArg Value.bool e, rfl⟩
theorem sound_r (E : Env) (b : Nat) (F : Fi) (i : Int) (hA : At (filP b F) E) : Does Try.prog 107 #[.pointer (some ⟨b, 0, none⟩), .int .i64 i] E ([]) fun r H' => r = .bool (F.good i) ∧ H' = [] := by
  obtain ⟨y, cs, h1, ok, a1, a2, a3⟩ := filAt hA
  unfold Fi.good
  cases hc : cget F.cs i with
  | none =>
    rw [← h1] at hc
    exact sound_n E b y F i cs a1 a2 (chm_none hc)
  | some k =>
    have hk := cget_mem hc
    have hb := (ok.cs k hk.1).2.2.2
    rw [← h1] at hc
    obtain ⟨A, c, C, rfl, h3, h4, h5⟩ := chm_some hc
    subst h3
    exact sound_y E b y F i _ c.v c.k.d c.k.s a1 a2 h5 (poolSl (t := 5) a3 (List.mem_map_of_mem (f := Ch.own) (by simp))) hb
end Go.Proofs.Ytpmapedhigjalaa
end
section
/- store: the map of what is sound. -/
namespace Go.Proofs.Ytpmapedhigjalaa
set_option maxRecDepth 100000
set_option maxHeartbeats 4000000
set_option linter.unusedVariables false
set_option linter.unusedSimpArgs false
open Go.Sx
/-- the chunks that are sound, of the first n -/
def bitsN (g : Nat → Bool) : Nat → Nat
  | 0 => 0
  | n + 1 => if g n then bitsN g n ||| 2 ^ n else bitsN g n
theorem bitsN_lt (g : Nat → Bool) (n : Nat) : bitsN g n < 2 ^ n := by
  induction n with
  | zero => simp [bitsN]
  | succ n ih =>
    have h : 2 ^ n < 2 ^ (n + 1) := Nat.pow_lt_pow_right (by omega) (by omega)
    simp only [bitsN]
    split
    · exact Nat.or_lt_two_pow (by omega) h
    · omega
theorem bitsN_bit (g : Nat → Bool) (n i : Nat) : (bitsN g n).testBit i = (decide (i < n) && g i) := by
  induction n with
  | zero => simp [bitsN]
  | succ n ih =>
    simp only [bitsN]
    by_cases hi : i = n
    · subst hi
      split
      · rename_i h; rw [Nat.testBit_or, ih, Nat.testBit_two_pow_self, h]; simp
      · rename_i h; rw [ih]; simp [Bool.eq_false_iff.2 h]
    · have e : decide (i < n + 1) = decide (i < n) := decide_eq_decide.2 (by omega)
      split
      · rw [Nat.testBit_or, ih, Nat.testBit_two_pow_of_ne (fun h => hi h.symm), e, Bool.or_false]
      · rw [ih, e]
theorem or_pow (a k : Nat) : orB (a : Int) (2 ^ ((k : Nat) : Int).toNat) = ((a ||| 2 ^ k : Nat) : Int) := by
  unfold orB
  rw [Int.toNat_natCast, Int.toNat_natCast]
  congr 2
def Fi.n (F : Fi) : Nat := (chZ F.sz).toNat
def Fi.bits (F : Fi) : Nat := bitsN (fun i => F.good (i : Nat)) F.n
theorem Fi.n_eq (F : Fi) : ((F.n : Nat) : Int) = chZ F.sz := by have := chZ_le F.sz; unfold Fi.n; omega
theorem Fi.n_le (F : Fi) : F.n ≤ 64 := by have := chZ_le F.sz; unfold Fi.n; omega
theorem bits_u {k n x : Nat} (hx : x < 2 ^ k) (hk : k ≤ n) (hn : n ≤ 64) : U64 (x : Int) ∧ bmR (n : Int) (x : Int) = true := by
  have h1 : 2 ^ k ≤ 2 ^ n := Nat.pow_le_pow_right (by omega) hk
  have h2 : 2 ^ n ≤ 2 ^ 64 := Nat.pow_le_pow_right (by omega) hn
  refine ⟨⟨by omega, by omega⟩, ?_⟩
  unfold bmR
  rw [decide_eq_true_eq, Int.toNat_natCast]
  exact ⟨by omega, by omega, by exact_mod_cast Nat.lt_of_lt_of_le hx h1⟩
theorem Fi.bits_u (F : Fi) : U64 (F.bits : Int) ∧ bmR (F.n : Int) (F.bits : Int) = true := Go.Proofs.Ytpmapedhigjalaa.bits_u (bitsN_lt _ F.n) (Nat.le_refl _) F.n_le
theorem bits_r (E : Env) (b : Nat) (F : Fi) (hA : At (filP b F) E) : Does Try.prog 102 #[.pointer (some ⟨b, 0, none⟩)] E ([]) fun r H' => r = .tuple #[.agg #[.int .i64 (F.n : Nat), .int .u64 (F.bits : Nat)], .int .i64 0] ∧ H' = [] := by
  obtain ⟨y, cs, h1, ok, a1, a2, a3⟩ := filAt hA
  have hn := chZ_le F.sz
  have hN := F.n_eq
  have hl := F.n_le
  rw [Fi.bits]
  refine Does.go _ _ Try.func102 rfl Try.ntmps102 rfl rfl ?_
  skip
  refine Body.seq ?_
  refine Body.region ?_
  refine Ops.s (Stp.alloc ty86 (fun b2 => ?_)) rfl
  refine Ops.u (Dtu.asg (lk rfl)) rfl ?_
  refine Ops.nil ?_
  refine Then.next ?_
  refine Body.seq ?_
  refine Body.region ?_
  refine Ops.u (Dtu.mv (lk rfl)) rfl ?_
  refine Ops.u (Dtu.nilck (lk rfl)) rfl ?_
  refine Ops.u (Dtu.fld fa158_0 (lk rfl)) rfl ?_
  refine Ops.u (Dtu.fld fa82_2 (lk rfl)) rfl ?_
  refine Ops.d (Det.ld Try.isAgg3 (lk rfl) (Rd.env (own_at a1 rfl))) rfl ?_
  refine Ops.s (Stp.call rfl Try.call62 (lks rfl) (fun E' le hat => schunks_ok E' _) ?_) rfl
  rintro _ _ ⟨rfl, rfl⟩
  refine Ops.s (Stp.call rfl Try.call88 (lks rfl) (fun E' le hat => bnew_ok E' _ (by first | with_reducible assumption | omega | assumption)) ?_) rfl
  rintro _ _ ⟨rfl, rfl⟩
  refine Ops.u (Dtu.mv (lk rfl)) rfl ?_
  refine Ops.u (Dtu.ext (lk rfl) rfl) rfl ?_
  refine Ops.u (Dtu.ext (lk rfl) rfl) rfl ?_
  refine Ops.s (Stp.alloc ty86 (fun b4 => ?_)) rfl
  refine Ops.e (Stp.store 0 Try.sizeOf86 (lk rfl) (lk rfl) rfl rfl rfl rfl rfl rfl rfl ?_)
  refine Ops.u (Dtu.asg (lk rfl)) rfl ?_
  refine Ops.nil ?_
  refine Then.next ?_
  refine Body.seq ?_
  refine Body.seq ?_
  refine Body.region ?_
  refine Ops.u (Dtu.mv (lk rfl)) rfl ?_
  refine Ops.u (Dtu.nilck (lk rfl)) rfl ?_
  refine Ops.u (Dtu.fld fa158_0 (lk rfl)) rfl ?_
  refine Ops.u (Dtu.fld fa82_2 (lk rfl)) rfl ?_
  refine Ops.d (Det.ld Try.isAgg3 (lk rfl) (Rd.env (own_at a1 rfl))) rfl ?_
  refine Ops.s (Stp.call rfl Try.call62 (lks rfl) (fun E' le hat => schunks_ok E' _) ?_) rfl
  rintro _ _ ⟨rfl, rfl⟩
  refine Ops.u (Dtu.mv (lk rfl)) rfl ?_
  refine Ops.nil ?_
  refine Then.next ?_
  refine Body.block ?_
  refine Body.loopL (γ := Nat) [0, 2, 3, 4, 5, 22] rfl (fun k => [(23, .int .i64 (k : Nat))]) (fun k => [(0, own b4 [.int .i64 (chZ F.sz), .int .u64 (bitsN (fun i => F.good (i : Nat)) k : Nat)] 86)]) (fun _ => rfl) (fun _ _ => rfl) (fun k => k ≤ F.n) (fun k => F.n - k) (0) (Nat.zero_le _) ⟨rfl, trivial⟩ rfl ?_
  rintro k u hk
  by_cases hlt : k < F.n
  · obtain ⟨hu, hr⟩ := bits_u (bitsN_lt (fun i => F.good (i : Nat)) k) hk hl
    rw [hN] at hr
    have ho := or_pow (bitsN (fun i => F.good (i : Nat)) k) k
    cases hg : F.good (k : Nat) with
    | true =>
      have e : bitsN (fun i => F.good (i : Nat)) (k + 1) = bitsN (fun i => F.good (i : Nat)) k ||| 2 ^ k := if_pos hg
      generalize bitsN (fun i => F.good (i : Nat)) k = B at *
      refine Body.seq ?_
      refine Body.region ?_
      refine Ops.u (Dtu.lss (lk rfl) (lk rfl)) rfl ?_
      refine Ops.nil ?_
      refine Then.next ?_
      refine Body.seq ?_
      refine Body.condP (lk rfl) (fun _ => ?_) (fun hn => absurd (by first | omega | assumption | decide) hn)
      refine Body.skip ?_
      refine Then.next ?_
      refine Body.seq ?_
      refine Body.block ?_
      refine Body.seq ?_
      refine Body.region ?_
      refine Ops.u (Dtu.mv (lk rfl)) rfl ?_
      refine Ops.u (Dtu.asg (lk rfl)) rfl ?_
      refine Ops.nil ?_
      refine Then.next ?_
      refine Body.seq ?_
      refine Body.region ?_
      refine Ops.u (Dtu.mv (lk rfl)) rfl ?_
      refine Ops.u (Dtu.eql (lk rfl) (lk rfl)) rfl ?_
      refine Ops.u (Dtu.mv (lk rfl)) rfl ?_
      refine Ops.decP 28 rfl (fun _ => ?_) (fun hn => absurd (by first | omega | assumption | decide) hn)
      refine Ops.gu rfl rfl rfl (Dtu.mv (lk rfl)) rfl ?_
      refine Ops.gu rfl rfl rfl (Dtu.mv (lk rfl)) rfl ?_
      refine Ops.gs rfl rfl rfl (Stp.call rfl Try.call107 (lks rfl) (fun E' le hat => sound_r E' _ _ _ (by first | exact At.mono (by assumption) le | exact hat _ (.head _) | exact hat _ (.tail _ (.head _)) | exact hat _ (.tail _ (.tail _ (.head _))) | exact hat _ (.tail _ (.tail _ (.tail _ (.head _)))) | exact hat _ (.tail _ (.tail _ (.tail _ (.tail _ (.head _))))) | exact hat _ (.tail _ (.tail _ (.tail _ (.tail _ (.tail _ (.head _)))))) | exact hat _ (.tail _ (.tail _ (.tail _ (.tail _ (.tail _ (.tail _ (.head _))))))) | exact hat _ (.tail _ (.tail _ (.tail _ (.tail _ (.tail _ (.tail _ (.tail _ (.head _)))))))) | exact hat _ (.tail _ (.tail _ (.tail _ (.tail _ (.tail _ (.tail _ (.tail _ (.tail _ (.head _))))))))) | exact hat _ (.tail _ (.tail _ (.tail _ (.tail _ (.tail _ (.tail _ (.tail _ (.tail _ (.tail _ (.head _)))))))))))) ?_) rfl
      rintro _ _ ⟨rfl, rfl⟩
      refine Ops.u (Dtu.pickT (lk rfl) (lk rfl)) rfl ?_
      refine Ops.nil ?_
      refine Then.next ?_
      refine Body.cond (lk rfl) (fun _ => ?_) (fun hn => absurd hn (by first | (rw [hg]; decide) | simp [hg]))
      refine Body.region ?_
      refine Ops.d (Det.lda Try.isAgg86 Try.sizeOf86 (lk rfl) (Rds.ow (m := 2) 0 rfl rfl) rfl) rfl ?_
      refine Ops.u (Dtu.mv (lk rfl)) rfl ?_
      refine Ops.s (Stp.call rfl Try.call89 (lks rfl) (fun E' le hat => bwith_ok E' _ _ _ (by first | with_reducible assumption | omega | assumption) (by first | with_reducible assumption | omega | assumption) (by first | with_reducible assumption | omega | assumption)) ?_) rfl
      rintro _ _ ⟨rfl, rfl⟩
      refine Ops.u (Dtu.mv (lk rfl)) rfl ?_
      refine Ops.u (Dtu.ext (lk rfl) rfl) rfl ?_
      refine Ops.u (Dtu.ext (lk rfl) rfl) rfl ?_
      refine Ops.e (Stp.store 0 Try.sizeOf86 (lk rfl) (lk rfl) rfl rfl rfl rfl rfl rfl rfl ?_)
      refine Ops.u (Dtu.asg (lk rfl)) rfl ?_
      refine Ops.nil ?_
      refine Blk.norm ?_
      refine Then.next ?_
      refine Body.region ?_
      refine Ops.u (Dtu.add (lk rfl) (lk rfl) (w64 (by omega) (by omega))) rfl ?_
      refine Ops.u (Dtu.mv (lk rfl)) rfl ?_
      refine Ops.nil ?_
      refine Round.goL [0, 0] (k + 1) rfl ⟨rfl, trivial⟩ rfl (by (try dsimp only); rw [ho, ← e]; try rfl) hlt (by omega)
    | false =>
      have e : bitsN (fun i => F.good (i : Nat)) (k + 1) = bitsN (fun i => F.good (i : Nat)) k := if_neg (by dsimp only; rw [hg]; simp)
      generalize bitsN (fun i => F.good (i : Nat)) k = B at *
      refine Body.seq ?_
      refine Body.region ?_
      refine Ops.u (Dtu.lss (lk rfl) (lk rfl)) rfl ?_
      refine Ops.nil ?_
      refine Then.next ?_
      refine Body.seq ?_
      refine Body.condP (lk rfl) (fun _ => ?_) (fun hn => absurd (by first | omega | assumption | decide) hn)
      refine Body.skip ?_
      refine Then.next ?_
      refine Body.seq ?_
      refine Body.block ?_
      refine Body.seq ?_
      refine Body.region ?_
      refine Ops.u (Dtu.mv (lk rfl)) rfl ?_
      refine Ops.u (Dtu.asg (lk rfl)) rfl ?_
      refine Ops.nil ?_
      refine Then.next ?_
      refine Body.seq ?_
      refine Body.region ?_
      refine Ops.u (Dtu.mv (lk rfl)) rfl ?_
      refine Ops.u (Dtu.eql (lk rfl) (lk rfl)) rfl ?_
      refine Ops.u (Dtu.mv (lk rfl)) rfl ?_
      refine Ops.decP 28 rfl (fun _ => ?_) (fun hn => absurd (by first | omega | assumption | decide) hn)
      refine Ops.gu rfl rfl rfl (Dtu.mv (lk rfl)) rfl ?_
      refine Ops.gu rfl rfl rfl (Dtu.mv (lk rfl)) rfl ?_
      refine Ops.gs rfl rfl rfl (Stp.call rfl Try.call107 (lks rfl) (fun E' le hat => sound_r E' _ _ _ (by first | exact At.mono (by assumption) le | exact hat _ (.head _) | exact hat _ (.tail _ (.head _)) | exact hat _ (.tail _ (.tail _ (.head _))) | exact hat _ (.tail _ (.tail _ (.tail _ (.head _)))) | exact hat _ (.tail _ (.tail _ (.tail _ (.tail _ (.head _))))) | exact hat _ (.tail _ (.tail _ (.tail _ (.tail _ (.tail _ (.head _)))))) | exact hat _ (.tail _ (.tail _ (.tail _ (.tail _ (.tail _ (.tail _ (.head _))))))) | exact hat _ (.tail _ (.tail _ (.tail _ (.tail _ (.tail _ (.tail _ (.tail _ (.head _)))))))) | exact hat _ (.tail _ (.tail _ (.tail _ (.tail _ (.tail _ (.tail _ (.tail _ (.tail _ (.head _))))))))) | exact hat _ (.tail _ (.tail _ (.tail _ (.tail _ (.tail _ (.tail _ (.tail _ (.tail _ (.tail _ (.head _)))))))))))) ?_) rfl
      rintro _ _ ⟨rfl, rfl⟩
      refine Ops.u (Dtu.pickT (lk rfl) (lk rfl)) rfl ?_
      refine Ops.nil ?_
      refine Then.next ?_
      refine Body.cond (lk rfl) (fun hn => absurd hn (by first | (rw [hg]; decide) | simp [hg])) (fun _ => ?_)
      refine Body.skip ?_
      refine Blk.norm ?_
      refine Then.next ?_
      refine Body.region ?_
      refine Ops.u (Dtu.add (lk rfl) (lk rfl) (w64 (by omega) (by omega))) rfl ?_
      refine Ops.u (Dtu.mv (lk rfl)) rfl ?_
      refine Ops.nil ?_
      refine Round.goL [0, 0] (k + 1) rfl ⟨rfl, trivial⟩ rfl (by (try dsimp only); rw [e]; try rfl) hlt (by omega)
  · obtain rfl : k = F.n := by omega
    rw [hN]
    refine Body.seq ?_
    refine Body.region ?_
    refine Ops.u (Dtu.lss (lk rfl) (lk rfl)) rfl ?_
    refine Ops.nil ?_
    refine Then.next ?_
    refine Body.seq ?_
    refine Body.condP (lk rfl) (fun hy => absurd hy (by first | omega | assumption | decide)) (fun _ => ?_)
    refine Body.exit ?_
    refine Then.exit ?_
    refine Round.exit ?_
    refine Blk.here ?_
    refine Then.next ?_
    refine Body.seq ?_
    refine Body.region ?_
    refine Ops.d (Det.lda Try.isAgg86 Try.sizeOf86 (lk rfl) (Rds.ow (m := 2) 0 rfl rfl) rfl) rfl ?_
    refine Ops.u (Dtu.mv (lk rfl)) rfl ?_
    refine Ops.e (Stp.store 1 Try.sizeOf86 (lk rfl) (lk rfl) rfl rfl rfl rfl rfl rfl rfl ?_)
    refine Ops.u (Dtu.asg (lk rfl)) rfl ?_
    refine Ops.nil ?_
    refine Then.next ?_
    refine Body.ret ?_
    exact ⟨.inr rfl, _, Loads.agg Try.isAgg86 Try.sizeOf86 (Rds.ow (m := 2) 1 rfl rfl) rfl, _, pk [] rfl, rfl, rfl⟩
end Go.Proofs.Ytpmapedhigjalaa
end
section
/- store: all files in memory; find, Map. -/
namespace Go.Proofs.Ytpmapedhigjalaa
set_option maxRecDepth 100000
set_option maxHeartbeats 4000000
set_option linter.unusedVariables false
set_option linter.unusedSimpArgs false
open Go.Sx
/-- a file, and where it lies -/
structure Fp where
  F : Fi
  b : Nat
def Fp.ptr (e : Fp) : Value := .pointer (some ⟨e.b, 0, none⟩)
def Fp.own (e : Fp) : HProp := filP e.b e.F
def fpm (l : List Fp) : ML := l.map fun e => (e.F.id, e.ptr)
def sget : List Fi → Int → Option Fi
  | [], _ => none
  | F :: l, i => if i = F.id then some F else sget l i
/-- a file in the place of that of its ID -/
def sput : List Fi → Fi → List Fi
  | [], _ => []
  | G :: l, F => if F.id = G.id then F :: l else G :: sput l F
def sdel : List Fi → Int → List Fi
  | [], _ => []
  | F :: l, i => if i = F.id then l else F :: sdel l i
theorem fpm_none {l : List Fp} {i : Int} (h : sget (l.map Fp.F) i = none) : mget (fpm l) i = none := by
  induction l with
  | nil => rfl
  | cons x l ih =>
    simp only [List.map_cons, sget] at h
    simp only [fpm, List.map_cons, mget]
    split at h
    · cases h
    · rename_i hn; rw [if_neg hn]; exact ih h
theorem fpm_some {l : List Fp} {i : Int} {F : Fi} (h : sget (l.map Fp.F) i = some F) : ∃ A e C, l = A ++ e :: C ∧ e.F = F ∧ e.F.id = i ∧ mget (fpm l) i = some e.ptr ∧ mdel (fpm l) i = fpm (A ++ C) ∧
    (∀ F' : Fi, F'.id = i → (A ++ (⟨F', e.b⟩ : Fp) :: C).map Fp.F = sput (l.map Fp.F) F' ∧ fpm (A ++ (⟨F', e.b⟩ : Fp) :: C) = fpm l) ∧ (A ++ C).map Fp.F = sdel (l.map Fp.F) i := by
  induction l with
  | nil => cases h
  | cons x l ih =>
    simp only [List.map_cons, sget] at h
    split at h
    · rename_i hn
      refine ⟨[], x, l, rfl, Option.some.inj h, hn.symm, ?_, ?_, fun F' h' => ⟨?_, ?_⟩, ?_⟩
      · simp only [fpm, List.map_cons, mget]; rw [if_pos hn]
      · simp only [fpm, List.map_cons, mdel]; rw [if_pos hn]; rfl
      · simp only [List.nil_append, List.map_cons, sput]; rw [if_pos (by rw [h', hn])]
      · simp only [List.nil_append, fpm, List.map_cons]; rw [h', hn]; rfl
      · simp only [List.nil_append, List.map_cons, sdel]; rw [if_pos hn]
    · rename_i hn
      obtain ⟨A, e, C, rfl, h1, h2, h3, h4, h5, h6⟩ := ih h
      refine ⟨x :: A, e, C, rfl, h1, h2, ?_, ?_, fun F' h' => ⟨?_, ?_⟩, ?_⟩
      · simp only [fpm, List.map_cons, mget]; rw [if_neg hn]; exact h3
      · simp only [fpm, List.cons_append, List.map_cons, mdel]; rw [if_neg hn]; exact congrArg _ h4
      · simp only [List.cons_append, List.map_cons, sput]; rw [if_neg (by rw [h']; exact hn)]; exact congrArg _ (h5 F' h').1
      · simp only [List.cons_append, fpm, List.map_cons]; exact congrArg _ (h5 F' h').2
      · simp only [List.cons_append, List.map_cons, sdel]; rw [if_neg hn]; exact congrArg _ h6
theorem fpm_new {l : List Fp} {e : Fp} (h : sget (l.map Fp.F) e.F.id = none) : mput (fpm l) e.F.id e.ptr = fpm (l ++ [e]) := by
  rw [mput_none (fpm_none h)]; simp [fpm]
theorem fpm_len (l : List Fp) : (fpm l).length = (l.map Fp.F).length := by simp [fpm]
/-- what owns a store -/
def stoA (b : Nat) (a : Nat × List Fp) : List HProp := match a with
  | (z, es) => [own b [.map (some z)] 154, omp .u64 z (fpm es), many (es.map Fp.own)]
def stoP (b : Nat) (fs : List Fi) : HProp := exO (fun a : Nat × List Fp => a.2.map Fp.F = fs) (stoA b)
theorem stoAt {E : Env} {b : Nat} {fs : List Fi} (h : At (stoP b fs) E) : ∃ z es, es.map Fp.F = fs ∧ At (own b [.map (some z)] 154) E ∧ Mp E [] .u64 z (fpm es) ∧ ∀ e ∈ es, At (filP e.b e.F) E := by
  obtain ⟨⟨z, es⟩, h1, h3⟩ := exO_at h
  exact ⟨z, es, h1, h3 _ (.head _), Mp.at (h3 _ (.tail _ (.head _))), fun e he => poolAt (h3 _ (.tail _ (.tail _ (.head _)))) _ (List.mem_map_of_mem (f := Fp.own) he)⟩
theorem smade_b (E : Env) (b z : Nat) (hA : At (own b [.map (some z)] 154) E) : Does Try.prog 101 #[.pointer (some ⟨b, 0, none⟩)] E ([]) fun r H' => r = .bool true ∧ H' = [] := by
  refine Does.go _ _ Try.func101 rfl Try.ntmps101 rfl rfl ?_
  skip
  refine Body.seq ?_
  refine Body.region ?_
  refine Ops.u (Dtu.asg (lk rfl)) rfl ?_
  refine Ops.nil ?_
  refine Then.next ?_
  refine Body.seq ?_
  refine Body.region ?_
  refine Ops.u (Dtu.mv (lk rfl)) rfl ?_
  refine Ops.u (Dtu.neNil Try.underlying116 (lk rfl) (lk rfl)) rfl ?_
  refine Ops.u (Dtu.mv (lk rfl)) rfl ?_
  refine Ops.gu rfl rfl rfl (Dtu.mv (lk rfl)) rfl ?_
  refine Ops.gu rfl rfl rfl (Dtu.nilck (lk rfl)) rfl ?_
  refine Ops.gu rfl rfl rfl (Dtu.fld fa154_0 (lk rfl)) rfl ?_
  refine Ops.gd rfl rfl rfl (Det.ld Try.isAgg152 (lk rfl) (Rd.env (own_at hA rfl))) rfl ?_
  refine Ops.gu rfl rfl rfl (Dtu.neNilM Try.underlying152 (lk rfl) (lk rfl)) rfl ?_
  refine Ops.u (Dtu.pickT (lk rfl) (lk rfl)) rfl ?_
  refine Ops.u (Dtu.asg (lk rfl)) rfl ?_
  refine Ops.nil ?_
  refine Then.next ?_
  refine Body.ret ?_
  exact ⟨.inr rfl, _, pk [] rfl, rfl, rfl⟩
theorem find_y (E : Env) (b z fb : Nat) (id : Int) (es : List Fp) (hA : At (own b [.map (some z)] 154) E) (hM : Mp E [] .u64 z (fpm es)) (hn : mget (fpm es) id = some (.pointer (some ⟨fb, 0, none⟩))) : Does Try.prog 105 #[.pointer (some ⟨b, 0, none⟩), .int .u64 id] E ([]) fun r H' => r = .tuple #[.pointer (some ⟨fb, 0, none⟩), .int .i64 0] ∧ H' = [] := by
  refine Does.go _ _ Try.func105 rfl Try.ntmps105 rfl rfl ?_
  skip
  refine Body.seq ?_
  refine Body.region ?_
  refine Ops.u (Dtu.asg (lk rfl)) rfl ?_
  refine Ops.u (Dtu.asg (lk rfl)) rfl ?_
  refine Ops.nil ?_
  refine Then.next ?_
  refine Body.seq ?_
  refine Body.seq ?_
  refine Body.region ?_
  refine Ops.u (Dtu.mv (lk rfl)) rfl ?_
  refine Ops.s (Stp.call rfl Try.call101 (lks rfl) (fun E' le hat => smade_b E' _ _ (by first | exact At.mono (by assumption) le | exact hat _ (.head _) | exact hat _ (.tail _ (.head _)) | exact hat _ (.tail _ (.tail _ (.head _))) | exact hat _ (.tail _ (.tail _ (.tail _ (.head _)))) | exact hat _ (.tail _ (.tail _ (.tail _ (.tail _ (.head _))))) | exact hat _ (.tail _ (.tail _ (.tail _ (.tail _ (.tail _ (.head _)))))) | exact hat _ (.tail _ (.tail _ (.tail _ (.tail _ (.tail _ (.tail _ (.head _))))))) | exact hat _ (.tail _ (.tail _ (.tail _ (.tail _ (.tail _ (.tail _ (.tail _ (.head _)))))))) | exact hat _ (.tail _ (.tail _ (.tail _ (.tail _ (.tail _ (.tail _ (.tail _ (.tail _ (.head _))))))))) | exact hat _ (.tail _ (.tail _ (.tail _ (.tail _ (.tail _ (.tail _ (.tail _ (.tail _ (.tail _ (.head _)))))))))))) ?_) rfl
  rintro _ _ ⟨rfl, rfl⟩
  refine Ops.u (Dtu.not (lk rfl)) rfl ?_
  refine Ops.nil ?_
  refine Then.next ?_
  refine Body.condF (lk rfl) ?_
  refine Body.skip ?_
  refine Then.next ?_
  refine Body.seq ?_
  refine Body.region ?_
  refine Ops.u (Dtu.mv (lk rfl)) rfl ?_
  refine Ops.u (Dtu.nilck (lk rfl)) rfl ?_
  refine Ops.u (Dtu.fld fa154_0 (lk rfl)) rfl ?_
  refine Ops.d (Det.ld Try.isAgg152 (lk rfl) (Rd.env (own_at hA rfl))) rfl ?_
  refine Ops.u (Dtu.mv (lk rfl)) rfl ?_
  refine Ops.d (Det.lookY Try.underlying152 Try.underlying72 (Mp.up hM) (lk rfl) (lk rfl) (by with_reducible assumption)) rfl ?_
  refine Ops.u (Dtu.asg (lk rfl)) rfl ?_
  refine Ops.nil ?_
  refine Then.next ?_
  refine Body.seq ?_
  refine Body.seq ?_
  refine Body.region ?_
  refine Ops.u (Dtu.mv (lk rfl)) rfl ?_
  refine Ops.u (Dtu.eqNil Try.underlying155 (lk rfl) (lk rfl)) rfl ?_
  refine Ops.nil ?_
  refine Then.next ?_
  refine Body.condF (lk rfl) ?_
  refine Body.skip ?_
  refine Then.next ?_
  refine Body.seq ?_
  refine Body.region ?_
  refine Ops.u (Dtu.mv (lk rfl)) rfl ?_
  refine Ops.u (Dtu.asg (lk rfl)) rfl ?_
  refine Ops.u (Dtu.asg (lk rfl)) rfl ?_
  refine Ops.nil ?_
  refine Then.next ?_
  refine Body.ret ?_
  exact ⟨.inr rfl, _, pk [] rfl, rfl, rfl⟩
theorem map_y (E : Env) (b : Nat) (id : Int) (fs : List Fi) (F : Fi) (hA : At (stoP b fs) E) (hn : sget fs id = some F) : Does Try.prog 71 #[.pointer (some ⟨b, 0, none⟩), .int .u64 id] E ([]) fun r H' => r = .tuple #[.agg #[.int .i64 (F.n : Nat), .int .u64 (F.bits : Nat)], .int .i64 0] ∧ H' = [] := by
  obtain ⟨z, es, rfl, a1, a2, a3⟩ := stoAt hA
  obtain ⟨A, e, C, rfl, h1, h2, hm, h4, h5, h6⟩ := fpm_some hn
  obtain ⟨F, fb⟩ := e
  dsimp only at h1
  subst h1
  have a4 : At (filP fb F) E := a3 ⟨F, fb⟩ (by simp)
  rw [Fp.ptr] at hm
  dsimp only at hm
  refine Does.go _ _ Try.func71 rfl Try.ntmps71 rfl rfl ?_
  skip
  refine Body.seq ?_
  refine Body.region ?_
  refine Ops.s (Stp.alloc ty86 (fun b4 => ?_)) rfl
  refine Ops.u (Dtu.asg (lk rfl)) rfl ?_
  refine Ops.nil ?_
  refine Then.next ?_
  refine Body.seq ?_
  refine Body.region ?_
  refine Ops.u (Dtu.mv (lk rfl)) rfl ?_
  refine Ops.u (Dtu.mv (lk rfl)) rfl ?_
  refine Ops.s (Stp.call rfl Try.call105 (lks rfl) (fun E' le hat => find_y E' _ _ _ _ _ (by first | exact At.mono (by assumption) le | exact hat _ (.head _) | exact hat _ (.tail _ (.head _)) | exact hat _ (.tail _ (.tail _ (.head _))) | exact hat _ (.tail _ (.tail _ (.tail _ (.head _)))) | exact hat _ (.tail _ (.tail _ (.tail _ (.tail _ (.head _))))) | exact hat _ (.tail _ (.tail _ (.tail _ (.tail _ (.tail _ (.head _)))))) | exact hat _ (.tail _ (.tail _ (.tail _ (.tail _ (.tail _ (.tail _ (.head _))))))) | exact hat _ (.tail _ (.tail _ (.tail _ (.tail _ (.tail _ (.tail _ (.tail _ (.head _)))))))) | exact hat _ (.tail _ (.tail _ (.tail _ (.tail _ (.tail _ (.tail _ (.tail _ (.tail _ (.head _))))))))) | exact hat _ (.tail _ (.tail _ (.tail _ (.tail _ (.tail _ (.tail _ (.tail _ (.tail _ (.tail _ (.head _))))))))))) (by first | exact Mp.mono (by assumption) le | exact Mp.at ((by first | exact At.mono (by assumption) le | exact hat _ (.head _) | exact hat _ (.tail _ (.head _)) | exact hat _ (.tail _ (.tail _ (.head _))) | exact hat _ (.tail _ (.tail _ (.tail _ (.head _)))) | exact hat _ (.tail _ (.tail _ (.tail _ (.tail _ (.head _))))) | exact hat _ (.tail _ (.tail _ (.tail _ (.tail _ (.tail _ (.head _)))))) | exact hat _ (.tail _ (.tail _ (.tail _ (.tail _ (.tail _ (.tail _ (.head _))))))) | exact hat _ (.tail _ (.tail _ (.tail _ (.tail _ (.tail _ (.tail _ (.tail _ (.head _)))))))) | exact hat _ (.tail _ (.tail _ (.tail _ (.tail _ (.tail _ (.tail _ (.tail _ (.tail _ (.head _))))))))) | exact hat _ (.tail _ (.tail _ (.tail _ (.tail _ (.tail _ (.tail _ (.tail _ (.tail _ (.tail _ (.head _))))))))))))) (by assumption)) ?_) rfl
  rintro _ _ ⟨rfl, rfl⟩
  refine Ops.u (Dtu.mv (lk rfl)) rfl ?_
  refine Ops.u (Dtu.ext (lk rfl) rfl) rfl ?_
  refine Ops.u (Dtu.ext (lk rfl) rfl) rfl ?_
  refine Ops.u (Dtu.asg (lk rfl)) rfl ?_
  refine Ops.u (Dtu.asg (lk rfl)) rfl ?_
  refine Ops.nil ?_
  refine Then.next ?_
  refine Body.seq ?_
  refine Body.seq ?_
  refine Body.region ?_
  refine Ops.u (Dtu.mv (lk rfl)) rfl ?_
  refine Ops.u (Dtu.neq (lk rfl) (lk rfl)) rfl ?_
  refine Ops.nil ?_
  refine Then.next ?_
  refine Body.condP (lk rfl) (fun hy => absurd hy (by first | omega | assumption | decide)) (fun _ => ?_)
  refine Body.skip ?_
  refine Then.next ?_
  refine Body.seq ?_
  refine Body.region ?_
  refine Ops.u (Dtu.mv (lk rfl)) rfl ?_
  refine Ops.s (Stp.call rfl Try.call102 (lks rfl) (fun E' le hat => bits_r E' _ _ (by first | exact At.mono (by assumption) le | exact hat _ (.head _) | exact hat _ (.tail _ (.head _)) | exact hat _ (.tail _ (.tail _ (.head _))) | exact hat _ (.tail _ (.tail _ (.tail _ (.head _)))) | exact hat _ (.tail _ (.tail _ (.tail _ (.tail _ (.head _))))) | exact hat _ (.tail _ (.tail _ (.tail _ (.tail _ (.tail _ (.head _)))))) | exact hat _ (.tail _ (.tail _ (.tail _ (.tail _ (.tail _ (.tail _ (.head _))))))) | exact hat _ (.tail _ (.tail _ (.tail _ (.tail _ (.tail _ (.tail _ (.tail _ (.head _)))))))) | exact hat _ (.tail _ (.tail _ (.tail _ (.tail _ (.tail _ (.tail _ (.tail _ (.tail _ (.head _))))))))) | exact hat _ (.tail _ (.tail _ (.tail _ (.tail _ (.tail _ (.tail _ (.tail _ (.tail _ (.tail _ (.head _)))))))))))) ?_) rfl
  rintro _ _ ⟨rfl, rfl⟩
  refine Ops.u (Dtu.ext (lk rfl) rfl) rfl ?_
  refine Ops.u (Dtu.ext (lk rfl) rfl) rfl ?_
  refine Ops.e (Stp.store 0 Try.sizeOf86 (lk rfl) (lk rfl) rfl rfl rfl rfl rfl rfl rfl ?_)
  refine Ops.u (Dtu.asg (lk rfl)) rfl ?_
  refine Ops.nil ?_
  refine Then.next ?_
  refine Body.ret ?_
  exact ⟨.inr rfl, _, Loads.agg Try.isAgg86 Try.sizeOf86 (Rds.ow (m := 2) 0 rfl rfl) rfl, _, pk [] rfl, rfl, rfl⟩
end Go.Proofs.Ytpmapedhigjalaa
end
section
/- store: New, Open. -/
namespace Go.Proofs.Ytpmapedhigjalaa
set_option maxRecDepth 100000
set_option maxHeartbeats 4000000
set_option linter.unusedVariables false
set_option linter.unusedSimpArgs false
open Go.Sx
theorem bits_none (g : Nat → Bool) (n : Nat) (h : ∀ i, i < n → g i = false) : bitsN g n = 0 := by
  induction n with
  | zero => rfl
  | succ n ih => rw [bitsN, h n (by omega), ih fun i hi => h i (by omega)]; rfl
theorem stoIn {E : Env} {b z : Nat} {fs : List Fi} {es : List Fp} {H : List HProp} {w : World} (h : es.map Fp.F = fs) (s : St E (own b [.map (some z)] 154 :: omp .u64 z (fpm es) :: many (es.map Fp.own) :: H) w) : St E (stoP b fs :: H) w :=
  exO_in (p := fun a : Nat × List Fp => a.2.map Fp.F = fs) (L := stoA b) (z, es) h s
theorem filIn {E : Env} {b y : Nat} {F : Fi} {cs : List Ch} {H : List HProp} {w : World} (h : cs.map Ch.k = F.cs) (ok : F.Ok) (s : St E (own b (.int .u64 F.id :: .string F.nm :: .int .i64 F.sz :: .int .u8 (F.sm 0) :: .int .u8 (F.sm 1) :: .int .u8 (F.sm 2) :: .int .u8 (F.sm 3) :: .int .u8 (F.sm 4) :: .int .u8 (F.sm 5) :: .int .u8 (F.sm 6) :: .int .u8 (F.sm 7) :: .int .u8 (F.sm 8) :: .int .u8 (F.sm 9) :: .int .u8 (F.sm 10) :: .int .u8 (F.sm 11) :: .int .u8 (F.sm 12) :: .int .u8 (F.sm 13) :: .int .u8 (F.sm 14) :: .int .u8 (F.sm 15) :: .int .u8 (F.sm 16) :: .int .u8 (F.sm 17) :: .int .u8 (F.sm 18) :: .int .u8 (F.sm 19) :: .int .u8 (F.sm 20) :: .int .u8 (F.sm 21) :: .int .u8 (F.sm 22) :: .int .u8 (F.sm 23) :: .int .u8 (F.sm 24) :: .int .u8 (F.sm 25) :: .int .u8 (F.sm 26) :: .int .u8 (F.sm 27) :: .int .u8 (F.sm 28) :: .int .u8 (F.sm 29) :: .int .u8 (F.sm 30) :: .int .u8 (F.sm 31) :: .map (some y) :: []) 158 :: omp .i64 y (chm cs) :: many (cs.map Ch.own) :: H) w) : St E (filP b F :: H) w :=
  exO_in (p := fun a : Nat × List Ch => a.2.map Ch.k = F.cs ∧ F.Ok) (L := filA b F) (y, cs) ⟨h, ok⟩ s
theorem Does.sto {P : Program} {g : FuncId} {args : Array Value} {E : Env} {b : Nat} {fs : List Fi} {H : List HProp} {Q : Value → List HProp → Prop}
    (h : ∀ z es, es.map Fp.F = fs → Does P g args E (own b [.map (some z)] 154 :: omp .u64 z (fpm es) :: many (es.map Fp.own) :: H) Q) : Does P g args E (stoP b fs :: H) Q := by
  refine Does.exO ?_
  rintro ⟨z, es⟩ h0
  exact h z es h0
theorem sto_new (E : Env) : Does Try.prog 65 #[] E ([]) fun r H' => ∃ b, r = .pointer (some ⟨b, 0, none⟩) ∧ H' = [stoP b []] := by
  refine Does.post (Q := fun r H' => ∃ b z, r = .pointer (some ⟨b, 0, none⟩) ∧ H' = [own b [.map (some z)] 154, omp .u64 z []]) ?_ ?_
  · refine Does.go _ _ Try.func65 rfl Try.ntmps65 rfl rfl ?_
    skip
    refine Body.seq ?_
    refine Body.region ?_
    refine Ops.u (Dtu.asg (lk rfl)) rfl ?_
    refine Ops.nil ?_
    refine Then.next ?_
    refine Body.seq ?_
    refine Body.region ?_
    refine Ops.s (Stp.makeMap .u64 (fun r1 => ?_)) rfl
    refine Ops.u (Dtu.build ty154 pl154 (lkp rfl) rfl rfl) rfl ?_
    refine Ops.s (Stp.box (lk rfl) rfl (fun b3 => ?_)) rfl
    refine Ops.u (Dtu.asg (lk rfl)) rfl ?_
    refine Ops.nil ?_
    refine Then.next ?_
    refine Body.ret ?_
    exact ⟨.inr rfl, _, pk [0, 0] rfl, ⟨_, _, rfl, rfl⟩⟩
  · rintro _ _ ⟨b, z, rfl, rfl⟩
    refine ⟨_, fun w s => stoIn (z := z) (es := []) rfl ?_, b, rfl, rfl⟩
    exact (many_nil s).perm ((List.perm_append_comm (l₁ := [many []]) (l₂ := [_, _])))
theorem open_new (E : Env) (b : Nat) (fs : List Fi) (G : Fi) (hr : infoR G.id G.nm G.sz = true) (hn : sget fs G.id = none) (hl : fs.length < 16) : Does Try.prog 66 #[.pointer (some ⟨b, 0, none⟩), .agg (.int .u64 G.id :: .string G.nm :: .int .i64 G.sz :: .int .u8 (G.sm 0) :: .int .u8 (G.sm 1) :: .int .u8 (G.sm 2) :: .int .u8 (G.sm 3) :: .int .u8 (G.sm 4) :: .int .u8 (G.sm 5) :: .int .u8 (G.sm 6) :: .int .u8 (G.sm 7) :: .int .u8 (G.sm 8) :: .int .u8 (G.sm 9) :: .int .u8 (G.sm 10) :: .int .u8 (G.sm 11) :: .int .u8 (G.sm 12) :: .int .u8 (G.sm 13) :: .int .u8 (G.sm 14) :: .int .u8 (G.sm 15) :: .int .u8 (G.sm 16) :: .int .u8 (G.sm 17) :: .int .u8 (G.sm 18) :: .int .u8 (G.sm 19) :: .int .u8 (G.sm 20) :: .int .u8 (G.sm 21) :: .int .u8 (G.sm 22) :: .int .u8 (G.sm 23) :: .int .u8 (G.sm 24) :: .int .u8 (G.sm 25) :: .int .u8 (G.sm 26) :: .int .u8 (G.sm 27) :: .int .u8 (G.sm 28) :: .int .u8 (G.sm 29) :: .int .u8 (G.sm 30) :: .int .u8 (G.sm 31) :: []).toArray] E ([stoP b fs]) fun r H' => r = .tuple #[.agg #[.int .i64 (chZ G.sz), .int .u64 0], .int .i64 0] ∧ H' = [stoP b (fs ++ [⟨G.id, G.nm, G.sz, G.sm, []⟩])] := by
  refine Does.sto fun z es h0 => ?_
  subst h0
  have hm := fpm_none hn
  have hl2 := fpm_len es
  refine Does.go _ _ Try.func66 rfl Try.ntmps66 rfl rfl ?_
  skip
  refine Body.seq ?_
  refine Body.region ?_
  refine Ops.s (Stp.box (lk rfl) rfl (fun b3 => ?_)) rfl
  refine Ops.s (Stp.alloc ty86 (fun b4 => ?_)) rfl
  refine Ops.u (Dtu.asg (lk rfl)) rfl ?_
  refine Ops.nil ?_
  refine Then.next ?_
  refine Body.seq ?_
  refine Body.block ?_
  refine Body.seq ?_
  refine Body.region ?_
  refine Ops.u (Dtu.mv (lk rfl)) rfl ?_
  refine Ops.s (Stp.call rfl Try.call101 (lks rfl) (fun E' le hat => smade_b E' _ _ (by first | exact At.mono (by assumption) le | exact hat _ (.head _) | exact hat _ (.tail _ (.head _)) | exact hat _ (.tail _ (.tail _ (.head _))) | exact hat _ (.tail _ (.tail _ (.tail _ (.head _)))) | exact hat _ (.tail _ (.tail _ (.tail _ (.tail _ (.head _))))) | exact hat _ (.tail _ (.tail _ (.tail _ (.tail _ (.tail _ (.head _)))))) | exact hat _ (.tail _ (.tail _ (.tail _ (.tail _ (.tail _ (.tail _ (.head _))))))) | exact hat _ (.tail _ (.tail _ (.tail _ (.tail _ (.tail _ (.tail _ (.tail _ (.head _)))))))) | exact hat _ (.tail _ (.tail _ (.tail _ (.tail _ (.tail _ (.tail _ (.tail _ (.tail _ (.head _))))))))) | exact hat _ (.tail _ (.tail _ (.tail _ (.tail _ (.tail _ (.tail _ (.tail _ (.tail _ (.tail _ (.head _)))))))))))) ?_) rfl
  rintro _ _ ⟨rfl, rfl⟩
  refine Ops.u (Dtu.not (lk rfl)) rfl ?_
  refine Ops.u (Dtu.asg (lk rfl)) rfl ?_
  refine Ops.nil ?_
  refine Then.next ?_
  refine Body.condF (lk rfl) ?_
  refine Body.seq ?_
  refine Body.region ?_
  refine Ops.d (Det.lda Try.isAgg82 Try.sizeOf82 (lk rfl) (Rds.ow (m := 35) 1 rfl rfl) rfl) rfl ?_
  refine Ops.s (Stp.call rfl Try.call38 (lks rfl) (fun E' le hat => sright_ok E' _ _ _ _) ?_) rfl
  rintro _ _ ⟨rfl, rfl⟩
  refine Ops.u (Dtu.not (lk rfl)) rfl ?_
  refine Ops.u (Dtu.asg (lk rfl)) rfl ?_
  refine Ops.nil ?_
  refine Then.next ?_
  refine Body.cond (lk rfl) (fun hn => absurd hn (by first | (rw [hr]; decide) | simp [hr])) (fun _ => ?_)
  refine Body.skip ?_
  refine Blk.norm ?_
  refine Then.next ?_
  refine Body.seq ?_
  refine Body.draw mixed ?_
  refine AB.u 0 rfl (by decide +kernel) (Dtu.mv (lk rfl)) rfl ?_
  refine AB.u 1 rfl (by decide +kernel) (Dtu.nilck (lk rfl)) rfl ?_
  refine AB.u 2 rfl (by decide +kernel) (Dtu.fld fa154_0 (lk rfl)) rfl ?_
  refine AB.d 3 rfl (by decide +kernel) rfl (Det.ld Try.isAgg152 (lk rfl) (Rd.ow 2 rfl rfl)) rfl ?_
  refine AB.u 4 rfl (by decide +kernel) (Dtu.fld fa82_0 (lk rfl)) rfl ?_
  refine AB.d 5 rfl (by decide +kernel) rfl (Det.ld Try.isAgg72 (lk rfl) (Rd.ow 1 rfl rfl)) rfl ?_
  refine AB.d 6 rfl (by decide +kernel) rfl (Det.lookN Try.underlying152 Try.underlying72 (Mp.ow 3 rfl) (lk rfl) (lk rfl) (by with_reducible assumption) zv155) rfl ?_
  refine AB.u 7 rfl (by decide +kernel) (Dtu.asg (lk rfl)) rfl ?_
  refine AB.done (by decide +kernel) ?_
  refine Then.next ?_
  refine Body.seq ?_
  refine Body.block ?_
  refine Body.seq ?_
  refine Body.draw mixed ?_
  refine AB.u 0 rfl (by decide +kernel) (Dtu.mv (lk rfl)) rfl ?_
  refine AB.u 1 rfl (by decide +kernel) (Dtu.neNil Try.underlying155 (lk rfl) (lk rfl)) rfl ?_
  refine AB.u 2 rfl (by decide +kernel) (Dtu.mv (lk rfl)) rfl ?_
  refine AB.gn 3 rfl (by decide +kernel) rfl rfl rfl rfl rfl ?_
  refine AB.gn 4 rfl (by decide +kernel) rfl rfl rfl rfl rfl ?_
  refine AB.gn 5 rfl (by decide +kernel) rfl rfl rfl rfl rfl ?_
  refine AB.gn 6 rfl (by decide +kernel) rfl rfl rfl rfl rfl ?_
  refine AB.gn 7 rfl (by decide +kernel) rfl rfl rfl rfl rfl ?_
  refine AB.gn 8 rfl (by decide +kernel) rfl rfl rfl rfl rfl ?_
  refine AB.u 9 rfl (by decide +kernel) (Dtu.pickF (lk rfl) (lk rfl)) rfl ?_
  refine AB.u 10 rfl (by decide +kernel) (Dtu.asg (lk rfl)) rfl ?_
  refine AB.done (by decide +kernel) ?_
  refine Then.next ?_
  refine Body.condF (lk rfl) ?_
  refine Body.seq ?_
  refine Body.region ?_
  refine Ops.u (Dtu.mv (lk rfl)) rfl ?_
  refine Ops.u (Dtu.eqNil Try.underlying155 (lk rfl) (lk rfl)) rfl ?_
  refine Ops.u (Dtu.mv (lk rfl)) rfl ?_
  refine Ops.gu rfl rfl rfl (Dtu.mv (lk rfl)) rfl ?_
  refine Ops.gu rfl rfl rfl (Dtu.nilck (lk rfl)) rfl ?_
  refine Ops.gu rfl rfl rfl (Dtu.fld fa154_0 (lk rfl)) rfl ?_
  refine Ops.gd rfl rfl rfl (Det.ld Try.isAgg152 (lk rfl) (Rd.ow 2 rfl rfl)) rfl ?_
  refine Ops.gd rfl rfl rfl (Det.mlen Try.underlying152 (Mp.ow 3 rfl) (lk rfl)) rfl ?_
  refine Ops.gu rfl rfl rfl (Dtu.geq (lk rfl) (lk rfl)) rfl ?_
  refine Ops.u (Dtu.pickT (lk rfl) (lk rfl)) rfl ?_
  refine Ops.u (Dtu.asg (lk rfl)) rfl ?_
  refine Ops.nil ?_
  refine Then.next ?_
  refine Body.condP (lk rfl) (fun hy => absurd hy (by first | omega | assumption | decide)) (fun _ => ?_)
  refine Body.seq ?_
  refine Body.region ?_
  refine Ops.u (Dtu.mv (lk rfl)) rfl ?_
  refine Ops.u (Dtu.eqNil Try.underlying155 (lk rfl) (lk rfl)) rfl ?_
  refine Ops.u (Dtu.asg (lk rfl)) rfl ?_
  refine Ops.nil ?_
  refine Then.next ?_
  refine Body.condT (lk rfl) ?_
  refine Body.seq ?_
  refine Body.region ?_
  refine Ops.d (Det.lda Try.isAgg82 Try.sizeOf82 (lk rfl) (Rds.ow (m := 35) 1 rfl rfl) rfl) rfl ?_
  refine Ops.s (Stp.makeMap .i64 (fun r52 => ?_)) rfl
  refine Ops.u (Dtu.build ty158 pl158 (lkp rfl) rfl rfl) rfl ?_
  refine Ops.s (Stp.box (lk rfl) rfl (fun b54 => ?_)) rfl
  refine Ops.u (Dtu.asg (lk rfl)) rfl ?_
  refine Ops.nil ?_
  refine Then.next ?_
  refine Body.draw mixed ?_
  refine AB.u 0 rfl (by decide +kernel) (Dtu.mv (lk rfl)) rfl ?_
  refine AB.u 1 rfl (by decide +kernel) (Dtu.nilck (lk rfl)) rfl ?_
  refine AB.u 2 rfl (by decide +kernel) (Dtu.fld fa154_0 (lk rfl)) rfl ?_
  refine AB.d 3 rfl (by decide +kernel) rfl (Det.ld Try.isAgg152 (lk rfl) (Rd.ow 4 rfl rfl)) rfl ?_
  refine AB.u 4 rfl (by decide +kernel) (Dtu.fld fa82_0 (lk rfl)) rfl ?_
  refine AB.d 5 rfl (by decide +kernel) rfl (Det.ld Try.isAgg72 (lk rfl) (Rd.ow 3 rfl rfl)) rfl ?_
  refine AB.u 6 rfl (by decide +kernel) (Dtu.mv (lk rfl)) rfl ?_
  refine AB.e 7 rfl (by decide +kernel) (by decide +kernel) (Stp.mput 5 Try.underlying152 Try.underlying72 rfl (lk rfl) (lk rfl) (lk rfl) rfl ?_)
  refine AB.done (by decide +kernel) ?_
  refine Blk.norm ?_
  refine Then.next ?_
  refine Body.seq ?_
  refine Body.region ?_
  refine Ops.u (Dtu.mv (lk rfl)) rfl ?_
  have ok : (⟨G.id, G.nm, G.sz, G.sm, []⟩ : Fi).Ok := ⟨hr, by simp⟩
  refine Ops.conseq (H' := [filP b54 (⟨G.id, G.nm, G.sz, G.sm, []⟩ : Fi), own b [.map (some z)] 154, omp .u64 z (fpm (es ++ [⟨⟨G.id, G.nm, G.sz, G.sm, []⟩, b54⟩])), many (es.map Fp.own), own b4 [.int .i64 0, .int .u64 0] 86]) (fun w s => filIn (y := r52) (F := ⟨G.id, G.nm, G.sz, G.sm, []⟩) (cs := []) rfl ok ?_) ?_
  · rw [← fpm_new (e := ⟨⟨G.id, G.nm, G.sz, G.sm, []⟩, b54⟩) hn]
    exact (many_nil (pk [0, 0, 2, 2, 2, 0] rfl w s)).perm ((List.Perm.swap _ _ _).trans (List.Perm.cons _ (List.Perm.swap _ _ _)))
  have hb : (⟨G.id, G.nm, G.sz, G.sm, []⟩ : Fi).bits = 0 := bits_none _ _ fun i _ => rfl
  have hN : (((⟨G.id, G.nm, G.sz, G.sm, []⟩ : Fi).n : Nat) : Int) = chZ G.sz := Fi.n_eq _
  have hS : ∀ w, St E [filP b54 (⟨G.id, G.nm, G.sz, G.sm, []⟩ : Fi), own b [.map (some z)] 154, omp .u64 z (fpm (es ++ [⟨⟨G.id, G.nm, G.sz, G.sm, []⟩, b54⟩])), many (es.map Fp.own)] w → St E [stoP b (es.map Fp.F ++ [⟨G.id, G.nm, G.sz, G.sm, []⟩])] w := fun w s =>
    stoIn (z := z) (es := es ++ [⟨⟨G.id, G.nm, G.sz, G.sm, []⟩, b54⟩]) (by simp) (by
      rw [List.map_append]
      exact (many_snoc (A := filP b54 ⟨G.id, G.nm, G.sz, G.sm, []⟩) (pk [0, 2, 0, 0] rfl w s)).perm ((List.Perm.swap _ _ _).trans (List.Perm.cons _ (List.Perm.swap _ _ _))))
  generalize (⟨G.id, G.nm, G.sz, G.sm, []⟩ : Fi) = F' at *
  refine Ops.s (Stp.call rfl Try.call102 (lks rfl) (fun E' le hat => bits_r E' _ _ (by first | exact At.mono (by assumption) le | exact hat _ (.head _) | exact hat _ (.tail _ (.head _)) | exact hat _ (.tail _ (.tail _ (.head _))) | exact hat _ (.tail _ (.tail _ (.tail _ (.head _)))) | exact hat _ (.tail _ (.tail _ (.tail _ (.tail _ (.head _))))) | exact hat _ (.tail _ (.tail _ (.tail _ (.tail _ (.tail _ (.head _)))))) | exact hat _ (.tail _ (.tail _ (.tail _ (.tail _ (.tail _ (.tail _ (.head _))))))) | exact hat _ (.tail _ (.tail _ (.tail _ (.tail _ (.tail _ (.tail _ (.tail _ (.head _)))))))) | exact hat _ (.tail _ (.tail _ (.tail _ (.tail _ (.tail _ (.tail _ (.tail _ (.tail _ (.head _))))))))) | exact hat _ (.tail _ (.tail _ (.tail _ (.tail _ (.tail _ (.tail _ (.tail _ (.tail _ (.tail _ (.head _)))))))))))) ?_) rfl
  rintro _ _ ⟨rfl, rfl⟩
  refine Ops.u (Dtu.ext (lk rfl) rfl) rfl ?_
  refine Ops.u (Dtu.ext (lk rfl) rfl) rfl ?_
  refine Ops.e (Stp.store 4 Try.sizeOf86 (lk rfl) (lk rfl) rfl rfl rfl rfl rfl rfl rfl ?_)
  refine Ops.u (Dtu.asg (lk rfl)) rfl ?_
  refine Ops.nil ?_
  refine Then.next ?_
  refine Body.ret ?_
  (exact ⟨.inr rfl, _, Loads.agg Try.isAgg86 Try.sizeOf86 (Rds.ow (m := 2) 4 rfl rfl) rfl, _, fun w s => hS w (pk [0, 0, 0, 0] rfl w s), by rw [hb, hN]; rfl, rfl⟩)
end Go.Proofs.Ytpmapedhigjalaa
end
