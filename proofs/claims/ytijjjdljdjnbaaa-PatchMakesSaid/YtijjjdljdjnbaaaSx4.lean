/- What single operations do to memory: loads, stores, new variables, addresses. -/
import Derived.Test.YtijjjdljdjnbaaaSx3
namespace Go.Sx
open Go

/-- what is known of a type -/
structure Ty (P : Program) (e : TypeId) (sz bytes : Nat) (z : List Value) : Prop where
  info : ∃ i zv, P.info? e = some i ∧ i.size = sz ∧ i.bytes = bytes ∧ i.zero = some zv ∧ zv.cells = z.toArray
theorem Ty.size {P : Program} {e : TypeId} {sz bytes : Nat} {z : List Value} (h : Ty P e sz bytes z) (w : World) : (sizeOf e).run P w = .ok sz w := by
  obtain ⟨i, zv, hi, rfl, _⟩ := h.info
  simp [sizeOf, typeInfo, hi]
theorem Ty.zero {P : Program} {e : TypeId} {sz bytes : Nat} {z : List Value} (h : Ty P e sz bytes z) : ∃ zv, zv.cells = z.toArray ∧ ∀ w, (zeroValue e).run P w = .ok zv w := by
  obtain ⟨i, zv, hi, _, _, hz, hc⟩ := h.info
  exact ⟨zv, hc, fun w => by simp [zeroValue, typeInfo, hi, hz]⟩

/-! ### lists and the like that are written out when they are looked at -/
def forceL : List Value → Option (List Value)
  | [] => some []
  | v :: vs => match forceL vs with
    | some r => some (v :: r)
    | none => none
theorem forceL_eq : ∀ {l r : List Value}, forceL l = some r → l = r
  | [], r, h => by simp only [forceL, Option.some.injEq] at h; exact h
  | v :: vs, r, h => by
    simp only [forceL] at h
    split at h
    · rename_i q hq; rw [forceL_eq hq]; exact Option.some.inj h
    · cases h
theorem forceL_some : ∀ l : List Value, forceL l = some l
  | [] => rfl
  | v :: vs => by simp only [forceL, forceL_some vs]
def setL : List HProp → Nat → HProp → Option (List HProp)
  | [], _, _ => none
  | _ :: H, 0, A => some (A :: H)
  | B :: H, i + 1, A => match setL H i A with
    | some r => some (B :: r)
    | none => none
theorem setL_eq : ∀ {H r : List HProp} {i : Nat} {A : HProp}, setL H i A = some r → H.set i A = r
  | [], _, _, _, h => by cases h
  | _ :: H, r, 0, A, h => by simp only [setL, Option.some.injEq] at h; exact h
  | B :: H, r, i + 1, A, h => by
    simp only [setL] at h
    split at h
    · rename_i q hq; rw [List.set_cons_succ, setL_eq hq]; exact Option.some.inj h
    · cases h
def cellsL : Value → List Value
  | .agg cs => cs.toList
  | v => [v]
theorem cellsL_eq (v : Value) : v.cells = (cellsL v).toArray := by cases v <;> rfl
def spl : List Value → Nat → List Value → Option (List Value)
  | zs, 0, [] => some zs
  | _ :: zs, 0, c :: cs => match spl zs 0 cs with
    | some r => some (c :: r)
    | none => none
  | z :: zs, k + 1, cs => match spl zs k cs with
    | some r => some (z :: r)
    | none => none
  | [], _, _ => none
theorem spl_eq : ∀ {zs : List Value} {off : Nat} {cs r : List Value}, spl zs off cs = some r → r = zs.take off ++ cs ++ zs.drop (off + cs.length) ∧ off + cs.length ≤ zs.length
  | zs, 0, [], r, h => by
    have : zs = r := by cases zs <;> simpa [spl] using h
    subst this; simp
  | z :: zs, 0, c :: cs, r, h => by
    simp only [spl] at h
    split at h
    · rename_i q hq
      obtain ⟨e, l⟩ := spl_eq hq
      obtain rfl := Option.some.inj h
      simp at e l ⊢
      exact ⟨e, l⟩
    · cases h
  | z :: zs, k + 1, cs, r, h => by
    simp only [spl] at h
    split at h
    · rename_i q hq
      obtain ⟨e, l⟩ := spl_eq hq
      obtain rfl := Option.some.inj h
      refine ⟨?_, by simp; omega⟩
      rw [e, show k + 1 + cs.length = (k + cs.length) + 1 by omega]
      simp
    · cases h
  | [], 0, c :: cs, r, h => by simp [spl] at h
  | [], k + 1, cs, r, h => by simp [spl] at h
theorem fold_set : ∀ (cs : List Value) (k off : Nat) (A : Array Value), off + k + cs.length ≤ A.size →
    ((cs.zipIdx k).foldl (fun a p => a.setIfInBounds (off + p.2) p.1) A).toList = A.toList.take (off + k) ++ cs ++ A.toList.drop (off + k + cs.length)
  | [], k, off, A, h => by simp
  | c :: cs, k, off, A, h => by
    simp only [List.zipIdx_cons, List.foldl_cons]
    rw [fold_set cs (k + 1) off _ (by simp at h ⊢; omega)]
    have hk : off + k < A.toList.length := by simp at h ⊢; omega
    have e : (A.setIfInBounds (off + k) c).toList = A.toList.set (off + k) c := by simp
    rw [e]
    have e1 : (A.toList.set (off + k) c).take (off + (k + 1)) = A.toList.take (off + k) ++ [c] := by
      rw [show off + (k + 1) = (off + k) + 1 by omega, List.take_succ_eq_append_getElem (by simpa using hk), List.take_set_of_le (Nat.le_refl _)]
      simp
    have e2 : (A.toList.set (off + k) c).drop (off + (k + 1) + cs.length) = A.toList.drop (off + k + (c :: cs).length) := by
      rw [List.drop_set_of_lt (by omega)]; congr 1; simp; omega
    rw [e1, e2]; simp
def fillL (place : Nat → Option (Nat × Nat)) : List Value → List (Nat × Value) → Option (List Value)
  | zs, [] => some zs
  | zs, (i, v) :: rest => match place i with
    | some (off, size) => bif Nat.beq (cellsL v).length size then (match spl zs off (cellsL v) with
      | some r => fillL place r rest
      | none => none) else none
    | none => none
theorem fillL_eq {place : Nat → Option (Nat × Nat)} : ∀ {qs : List (Nat × Value)} {zs vs : List Value}, fillL place zs qs = some vs → Instr.fill place zs.toArray qs = some vs.toArray
  | [], zs, vs, h => by simp only [fillL, Option.some.injEq] at h; subst h; rfl
  | (i, v) :: rest, zs, vs, h => by
    simp only [fillL] at h
    simp only [Instr.fill]
    split at h
    · rename_i off size hp
      rw [hp]
      dsimp only
      cases hb : Nat.beq (cellsL v).length size with
      | false => rw [hb] at h; simp at h
      | true =>
        rw [hb] at h
        simp only [cond_true] at h
        split at h
        · rename_i r hr
          obtain ⟨e, l⟩ := spl_eq hr
          have hs : v.cells.size = size := by rw [cellsL_eq]; simpa using Nat.eq_of_beq_eq_true hb
          rw [cellsL_eq] at hs ⊢
          rw [if_neg (by simp at hs ⊢; omega)]
          have := fold_set (cellsL v) 0 off zs.toArray (by simpa using l)
          rw [← fillL_eq h]
          congr 1
          apply Array.toList_inj.1
          rw [e]
          simpa [← Array.foldl_toList] using this
        · cases h
    · cases h
def partCell : Value → Nat → Option Value
  | .agg cs, j => cs.toList[j]?
  | v, j => bif Nat.beq j 0 then some v else none
def findCell (place : Nat → Option (Nat × Nat)) (zs : List Value) (c : Nat) : List (Nat × Value) → Option Value
  | [] => zs[c]?
  | (i, v) :: r => match place i with
    | some (off, sz) => bif Nat.ble off c && Nat.blt c (off + sz) then partCell v (c - off) else findCell place zs c r
    | none => none
def collect (p : Nat → Option Value) : Nat → Nat → Option (List Value)
  | _, 0 => some []
  | i, k + 1 => match p i with
    | some v => match collect p (i + 1) k with
      | some r => some (v :: r)
      | none => none
    | none => none

/-! ### reading -/
/-- this cell of this block holds v, in memory that stays -/
def Cell (E : Env) (b off : Nat) (v : Value) : Prop := ∃ c t fz, E.hp b = some (.cells c t fz) ∧ c[off]? = some v
theorem Cell.mono {E E' : Env} {b off : Nat} {v : Value} (h : Cell E b off v) (le : E.Le E') : Cell E' b off v := let ⟨c, t, fz, e, k⟩ := h; ⟨c, t, fz, le.hp b _ e, k⟩
def Rd (E : Env) (H : List HProp) (b off : Nat) (v : Value) : Prop := ∀ w, St E H w → w.cell? ⟨b, off, none⟩ = some v
theorem cell_of_heap {w : World} {b off : Nat} {c : Array Value} {t : TypeId} {fz : Nat × Nat} {v : Value} (h : w.heap[b]? = some (.cells c t fz)) (hc : c[off]? = some v) : w.cell? ⟨b, off, none⟩ = some v := by
  simp [World.cell?, h, hc]
theorem Rd.env {E : Env} {H : List HProp} {b off : Nat} {v : Value} (h : Cell E b off v) : Rd E H b off v := fun _ s =>
  let ⟨_, _, _, e, k⟩ := h; cell_of_heap (s.keep b _ e) k
theorem Rd.ow {E : Env} {H : List HProp} (i : Nat) {b off : Nat} {vs : List Value} {t : TypeId} {v : Value} (hi : H[i]? = some (own b vs t)) (hv : vs[off]? = some v) : Rd E H b off v := fun w s =>
  cell_of_heap (s.get hi).block (by simpa using hv)
def Rds (E : Env) (H : List HProp) (b off : Nat) (us : List Value) : Prop := ∀ j u, us[j]? = some u → Rd E H b (off + j) u
theorem Rds.nil {E : Env} {H : List HProp} {b off : Nat} : Rds E H b off [] := fun _ _ h => by simp at h
theorem Rds.ow {E : Env} {H : List HProp} (i : Nat) {b off m : Nat} {vs us : List Value} {t : TypeId} (hi : H[i]? = some (own b vs t)) (hv : forceL ((vs.drop off).take m) = some us) : Rds E H b off us := fun j u hj => by
  obtain rfl := forceL_eq hv
  refine Rd.ow i hi ?_
  rw [List.getElem?_take] at hj
  split at hj
  · rw [List.getElem?_drop] at hj; exact hj
  · cases hj
theorem Rds.owAll {E : Env} {H : List HProp} (i : Nat) {b : Nat} {vs : List Value} {t : TypeId} (hi : H[i]? = some (own b vs t)) : Rds E H b 0 vs := fun j u hj => Rd.ow i hi (by rw [Nat.zero_add]; exact hj)
theorem Rds.sub {E : Env} {H : List HProp} {b off : Nat} {us : List Value} (h : Rds E H b off us) (k m : Nat) : Rds E H b (off + k) ((us.drop k).take m) := fun j u hj => by
  rw [List.getElem?_take] at hj
  split at hj
  · rw [List.getElem?_drop] at hj; rw [Nat.add_assoc]; exact h _ _ hj
  · cases hj

theorem addr_add (b off m : Nat) : (⟨b, off, none⟩ : Addr).add m = ⟨b, off + m, none⟩ := by
  unfold Addr.add; split <;> simp_all

theorem run_load1 {P : Program} {T : TypeId} {a : Addr} {v : Value} {w : World} (hT : ∀ w, (isAgg T).run P w = .ok false w) (h : w.cell? a = some v) : (loadVar T a).run P w = .ok v w := by
  simp [loadVar, hT, h]
theorem run_loadN {P : Program} {T : TypeId} {b off m : Nat} {us : List Value} {w : World} (hT : ∀ w, (isAgg T).run P w = .ok true w) (hm : ∀ w, (sizeOf T).run P w = .ok m w) (hl : us.length = m)
    (h : ∀ j u, us[j]? = some u → w.cell? ⟨b, off + j, none⟩ = some u) : (loadVar T ⟨b, off, none⟩).run P w = .ok (.agg us.toArray) w := by
  have := run_loadCells_list (P := P) w ⟨b, off, none⟩ us (fun j v hv => by rw [addr_add]; exact h j v hv)
  subst hl
  simp [loadVar, hT, hm, this]

section
variable {P : Program} {n : Nat} {f : Fr} {E : Env} {H : List HProp} {d : Option Nat} {ty : TypeId} {pos : String} {aft : Array Edge} {g : Option (Nat × Bool)} {x y z : Operand} {K : Value → List HProp → Prop}
theorem Det.ld {T : TypeId} {b off : Nat} {v : Value} (hT : ∀ w, (isAgg T).run P w = .ok false w) (hx : ev f x = .pointer (some ⟨b, off, none⟩)) (h : Rd E H b off v) : Det P n f E H ⟨d, .load T x, ty, pos, aft, g⟩ v := fun w a r s => by
  simp [execOp, r.eval, hx, Instr.loadAt, Instr.sureAddr, run_load1 hT (h w s)]
theorem Det.lda {T : TypeId} {b off m : Nat} {us : List Value} (hT : ∀ w, (isAgg T).run P w = .ok true w) (hm : ∀ w, (sizeOf T).run P w = .ok m w) (hx : ev f x = .pointer (some ⟨b, off, none⟩)) (h : Rds E H b off us) (hl : us.length = m) :
    Det P n f E H ⟨d, .load T x, ty, pos, aft, g⟩ (.agg us.toArray) := fun w a r s => by
  simp [execOp, r.eval, hx, Instr.loadAt, Instr.sureAddr, run_loadN hT hm hl fun j u hj => h j u hj w s]
theorem Loads.one {T : TypeId} {b off : Nat} {v : Value} (hT : ∀ w, (isAgg T).run P w = .ok false w) (h : Rd E H b off v) : Loads P T (.pointer (some ⟨b, off, none⟩)) v E H := ⟨_, rfl, fun w s => run_load1 hT (h w s)⟩
theorem Loads.agg {T : TypeId} {b off m : Nat} {us : List Value} (hT : ∀ w, (isAgg T).run P w = .ok true w) (hm : ∀ w, (sizeOf T).run P w = .ok m w) (h : Rds E H b off us) (hl : us.length = m) : Loads P T (.pointer (some ⟨b, off, none⟩)) (.agg us.toArray) E H :=
  ⟨_, rfl, fun w s => run_loadN hT hm hl fun j u hj => h j u hj w s⟩

/-! ### new variables -/
theorem Stp.alloc {T : TypeId} {sz bytes : Nat} {zs : List Value} (ht : Ty P T sz bytes zs) (k : ∀ b, K (.pointer (some ⟨b, 0, none⟩)) (own b zs T :: H)) : Stp true P n f E H ⟨d, .alloc T, ty, pos, aft, g⟩ K := fun w a r s => by
  obtain ⟨zv, hc, hz⟩ := ht.zero
  obtain ⟨s2, x⟩ := s.alloc zs T
  have e : (execOp a.eval ⟨d, .alloc T, ty, pos, aft, g⟩).run P w = .ok (.value (.pointer (some ⟨w.heap.size, 0, none⟩))) { w with heap := w.heap.push (.cells zs.toArray T (0, 0)) } := by
    simp [execOp, Instr.alloc, hz, newVar, newRow, hc]
  unfold OpR; rw [e]
  exact ⟨fun _ => x, _, k _, s2⟩
theorem Stp.box {T : TypeId} {v : Value} {vs : List Value} (hx : ev f x = v) (hv : v.cells = vs.toArray) (k : ∀ b, K (.pointer (some ⟨b, 0, none⟩)) (own b vs T :: H)) : Stp true P n f E H ⟨d, .box T x, ty, pos, aft, g⟩ K := fun w a r s => by
  obtain ⟨s2, x'⟩ := s.alloc vs T
  have e : (execOp a.eval ⟨d, .box T x, ty, pos, aft, g⟩).run P w = .ok (.value (.pointer (some ⟨w.heap.size, 0, none⟩))) { w with heap := w.heap.push (.cells vs.toArray T (0, 0)) } := by
    simp [execOp, r.eval, hx, Instr.box, newVar, newRow, hv]
  unfold OpR; rw [e]
  exact ⟨fun _ => x', _, k _, s2⟩

/-! ### stores -/
theorem setRow_write {b : Nat} {vs vs' : List Value} {t : TypeId} {w : World} (s : St E (own b vs t :: H) w) : St E (own b vs' t :: H) (w.setRow b vs'.toArray) :=
  s.write (setRow_heap w b _ _ t (0, 0) s.block) (fun m hm => by simp only [World.setRow, Array.getElem?_modify]; rw [if_neg (fun e => hm e.symm)]) rfl rfl rfl
/-- a value's cells go into an owned block -/
theorem Stp.store (i : Nat) {T : TypeId} {b off m : Nat} {vs us vs' : List Value} {t : TypeId} {v : Value} {H' : List HProp} (hm : ∀ w, (sizeOf T).run P w = .ok m w) (hx : ev f x = .pointer (some ⟨b, off, none⟩)) (hy : ev f y = v) (hv : v.cells = us.toArray) (hul : us.length = m)
    (hi : H[i]? = some (own b vs t)) (hl : Nat.ble (off + m) vs.length = true) (h1 : us.all (·.oneCell') = true) (hn : forceL (vs.take off ++ us ++ vs.drop (off + m)) = some vs') (hH : setL H i (own b vs' t) = some H') (k : K undef H') :
    Stp false P n f E H ⟨d, .store T x y, ty, pos, aft, g⟩ K := fun w a r s => by
  subst hul
  have hl := Nat.le_of_ble_eq_true hl
  obtain rfl := forceL_eq hn
  obtain rfl := setL_eq hH
  have s1 := s.get hi
  have hst := run_storeCells_at P b off t us 0 vs.toArray w s1.block (by simpa using hl) (fun v hv => (List.all_eq_true.1 h1) v hv)
  have e : (execOp a.eval ⟨d, .store T x y, ty, pos, aft, g⟩).run P w = .ok .skip (w.setRow b (vs.take off ++ us ++ vs.drop (off + us.length)).toArray) := by
    simp only [Nat.add_zero] at hst
    simp only [execOp, r.eval, hx, hy, Instr.storeAt, Instr.sureAddr, storeVar, Sem.run_bind, Sem.run_pure, Result.andThen_ok, hm, hv]
    simp [hst]
  unfold OpR; rw [e]
  exact ⟨fun e => (by cases e), _, k, St.put hi (setRow_write s1)⟩

/-! ### addresses -/
theorem Dtu.ixs {t e : TypeId} {sz b off m c i : Nat} {kk : IntKind} {iv : Int} (ht : P.underlying t = some (.slice e)) (hz : ∀ w, (sizeOf e).run P w = .ok sz w) (hx : ev f x = .slice (some ⟨b, off, none⟩) m c) (hy : ev f y = .int kk iv)
    (hi : iv = (i : Int)) (hlt : i < m) : Dtu P n f E H ⟨d, .indexAddr t x y, ty, pos, aft, g⟩ (.pointer (some ⟨b, off + i * sz, none⟩)) := fun w0 s w a r => by
  subst hi
  simp [execOp, r.eval, hx, hy, Instr.indexAt, asIntOf, run_underlying ht, hlt, hz, addr_add]
theorem Dtu.ixa {t e : TypeId} {len sz b off i : Nat} {kk : IntKind} {iv : Int} (ht : P.underlying t = some (.array len e)) (hz : ∀ w, (sizeOf e).run P w = .ok sz w) (hx : ev f x = .pointer (some ⟨b, off, none⟩)) (hy : ev f y = .int kk iv)
    (hi : iv = (i : Int)) (hlt : i < len) : Dtu P n f E H ⟨d, .indexAddr t x y, ty, pos, aft, g⟩ (.pointer (some ⟨b, off + i * sz, none⟩)) := fun w0 s w a r => by
  subst hi
  simp [execOp, r.eval, hx, hy, Instr.indexAt, Instr.sureAddr, asIntOf, run_underlying ht, hlt, hz, addr_add]
/-- a field of a struct's type, not of size nothing -/
def FieldAt (P : Program) (T : TypeId) (i off : Nat) : Prop := ∀ b o w, (Instr.fieldAt T (.pointer (some ⟨b, o, none⟩)) i).run P w = .ok (.pointer (some ⟨b, o + off, none⟩)) w
theorem FieldAt.mk {T : TypeId} {fs : Array Field} {i off sz : Nat} {fd : Field} (hT : P.underlying T = some (.struct fs)) (hf : fs[i]? = some fd) (ho : fd.offset = off) (hs : ∀ w, (sizeOf fd.type).run P w = .ok sz w) (h0 : sz ≠ 0) : FieldAt P T i off := fun b o w => by
  subst ho
  simp [Instr.fieldAt, Instr.sureAddr, run_underlying hT, hf, fieldPlace, hs, h0, addr_add]
theorem Dtu.fld {T : TypeId} {i off b o : Nat} (hF : FieldAt P T i off) (hx : ev f x = .pointer (some ⟨b, o, none⟩)) : Dtu P n f E H ⟨d, .fieldAddr T x i, ty, pos, aft, g⟩ (.pointer (some ⟨b, o + off, none⟩)) := fun w0 s w a r => by
  simp only [execOp, r.eval, hx, run_v, hF b o w, Result.andThen_ok]
/-- a field of a struct's value -/
def FieldOf (P : Program) (T : TypeId) (i off sz : Nat) (agg : Bool) : Prop := ∃ fs fd, P.underlying T = some (.struct fs) ∧ fs[i]? = some fd ∧ fd.offset = off ∧ (∀ w, (isAgg fd.type).run P w = .ok agg w) ∧ (∀ w, (sizeOf fd.type).run P w = .ok sz w)
theorem Dtu.fieldv {T : TypeId} {i off sz : Nat} {vs : List Value} {v : Value} (hF : FieldOf P T i off sz false) (hx : ev f x = .agg vs.toArray) (hv : vs[off]? = some v) : Dtu P n f E H ⟨d, .field T x i, ty, pos, aft, g⟩ v := fun w0 s w a r => by
  obtain ⟨fs, fd, h1, h2, rfl, h4, h5⟩ := hF
  simp [execOp, r.eval, hx, Instr.field, run_underlying h1, h2, part, h4, asAgg, hv]
theorem Dtu.fielda {T : TypeId} {i off sz : Nat} {vs us : List Value} (hF : FieldOf P T i off sz true) (hx : ev f x = .agg vs.toArray) (hv : forceL ((vs.drop off).take sz) = some us) : Dtu P n f E H ⟨d, .field T x i, ty, pos, aft, g⟩ (.agg us.toArray) := fun w0 s w a r => by
  obtain ⟨fs, fd, h1, h2, rfl, h4, h5⟩ := hF
  obtain rfl := forceL_eq hv
  simp [execOp, r.eval, hx, Instr.field, run_underlying h1, h2, part, h4, h5, asAgg]
/-- an element of an array's value -/
theorem Dtu.ixv {t e : TypeId} {len i : Nat} {kk : IntKind} {iv : Int} {vs : List Value} {v : Value} (ht : P.underlying t = some (.array len e)) (hz : ∀ w, (sizeOf e).run P w = .ok 1 w) (ha : ∀ w, (isAgg e).run P w = .ok false w) (hx : ev f x = .agg vs.toArray) (hy : ev f y = .int kk iv)
    (hi : iv = (i : Int)) (hlt : i < len) (hv : vs[i]? = some v) : Dtu P n f E H ⟨d, .index t x y, ty, pos, aft, g⟩ v := fun w0 s w a r => by
  subst hi
  simp [execOp, r.eval, hx, hy, Instr.index, asIntOf, run_underlying ht, hlt, hz, part, ha, hv]
/-- a byte of a string -/
theorem Dtu.ixstr {t : TypeId} {i : Nat} {kk : IntKind} {iv : Int} {s : ByteArray} {c : UInt8} (ht : P.underlying t = some .string) (hx : ev f x = .string s) (hy : ev f y = .int kk iv) (hi : iv = (i : Int)) (hc : s[i]? = some c) :
    Dtu P n f E H ⟨d, .index t x y, ty, pos, aft, g⟩ (.int .u8 c.toNat) := fun w0 st w a r => by
  subst hi
  simp [execOp, r.eval, hx, hy, Instr.index, asIntOf, run_underlying ht, hc]

/-! ### structs and arrays put together -/
def PlacesOf (P : Program) (T : TypeId) (pl : List (Nat × Nat)) : Prop := ∃ fs : Array Field, P.underlying T = some (.struct fs) ∧ ∀ w, (fs.mapM (m := Sem) fun f => do pure (f.offset, ← sizeOf f.type)).run P w = .ok pl.toArray w
theorem Dtu.build {T : TypeId} {sz bytes : Nat} {zs : List Value} {pl : List (Nat × Nat)} {ps : List (Nat × Operand)} {qs : List (Nat × Value)} {vs : List Value} (ht : Ty P T sz bytes zs) (hp : PlacesOf P T pl) (hq : ps.map (fun p => (p.1, ev f p.2)) = qs)
    (_hc : collect (fun c => findCell (pl[·]?) zs c qs) 0 sz = some vs) (h0 : fillL (pl[·]?) zs qs = some vs) : Dtu P n f E H ⟨d, .build T ps.toArray, ty, pos, aft, g⟩ (.agg vs.toArray) := fun w0 s w a r => by
  have h := fillL_eq h0
  obtain ⟨zv, hc, hz⟩ := ht.zero
  obtain ⟨fs, h1, h2⟩ := hp
  subst hq
  have e : (execOp a.eval ⟨d, .build T ps.toArray, ty, pos, aft, g⟩).run P w = ((Instr.build T (ps.map fun p => (p.1, ev f p.2)).toArray).run P w).andThen fun v w' => .ok (.value v) w' := by
    simp [execOp, r.eval]
  rw [e]
  have h' : Instr.fill (fun x => pl.toArray[x]?) zs.toArray (ps.map fun p => (p.1, ev f p.2)) = some vs.toArray := by simpa using h
  simp only [Instr.build, Sem.run_bind, hz, hc, run_underlying h1, Result.andThen_ok, h2, h', Sem.run_pure]
theorem Dtu.buildArr {T e : TypeId} {len sz bytes esz : Nat} {zs : List Value} {ps : List (Nat × Operand)} {qs : List (Nat × Value)} {vs : List Value} (ht : Ty P T sz bytes zs) (hu : P.underlying T = some (.array len e)) (hs : ∀ w, (sizeOf e).run P w = .ok esz w) (hq : ps.map (fun p => (p.1, ev f p.2)) = qs)
    (_hc : collect (fun c => findCell (fun i => some (i * esz, esz)) zs c qs) 0 sz = some vs) (h0 : fillL (fun i => some (i * esz, esz)) zs qs = some vs) : Dtu P n f E H ⟨d, .build T ps.toArray, ty, pos, aft, g⟩ (.agg vs.toArray) := fun w0 s w a r => by
  have h := fillL_eq h0
  obtain ⟨zv, hc, hz⟩ := ht.zero
  subst hq
  have e : (execOp a.eval ⟨d, .build T ps.toArray, ty, pos, aft, g⟩).run P w = ((Instr.build T (ps.map fun p => (p.1, ev f p.2)).toArray).run P w).andThen fun v w' => .ok (.value v) w' := by
    simp [execOp, r.eval]
  rw [e]
  simp [Instr.build, hz, hc, run_underlying hu, hs, h]
/-- a slice put together: a new block -/
theorem Stp.buildSlice {T e : TypeId} {len sz bytes : Nat} {zs : List Value} {ps : List (Nat × Operand)} {qs : List (Nat × Value)} {vs : List Value} (hu : P.underlying T = some (.slice e)) (ht : Ty P e sz bytes zs) (h24 : len * sz ≤ 2 ^ 24) (h0 : len * sz ≠ 0) (hq : ps.map (fun p => (p.1, ev f p.2)) = qs)
    (_hc : collect (fun c => findCell (fun i => some (i * sz, sz)) (List.replicate len zs).flatten c qs) 0 (len * sz) = some vs) (h'' : fillL (fun i => some (i * sz, sz)) ((List.range (len * sz)).map (fun x => zs.toArray[x % zs.toArray.size]!)) qs = some vs) (k : ∀ b, K (.slice (some ⟨b, 0, none⟩) len len) (own b vs e :: H)) : Stp true P n f E H ⟨d, .buildSlice T len ps.toArray, ty, pos, aft, g⟩ K := fun w a r s => by
  have h' := fillL_eq h''
  have h : Instr.fill (fun i => some (i * sz, sz)) ((Array.range (len * sz)).map (zs.toArray[· % zs.toArray.size]!)) qs = some vs.toArray := by
    rw [← h', ← List.toArray_range, List.map_toArray]
  obtain ⟨zv, hc, hz⟩ := ht.zero
  obtain ⟨s2, x⟩ := s.alloc vs e
  subst hq
  have e1 : (execOp a.eval ⟨d, .buildSlice T len ps.toArray, ty, pos, aft, g⟩).run P w = ((Instr.buildSlice T len (ps.map fun p => (p.1, ev f p.2)).toArray).run P w).andThen fun v w' => .ok (.value v) w' := by
    simp [execOp, r.eval]
  have e2 : (execOp a.eval ⟨d, .buildSlice T len ps.toArray, ty, pos, aft, g⟩).run P w = .ok (.value (.slice (some ⟨w.heap.size, 0, none⟩) len len)) { w with heap := w.heap.push (.cells vs.toArray e (0, 0)) } := by
    rw [e1]
    have n24 : ¬ (2 ^ 24 < len * sz) := by omega
    simp only [Instr.buildSlice, Sem.run_bind, run_underlying hu, ht.size, Result.andThen_ok, gt_iff_lt, n24, if_false, h0, hz, hc, Sem.run_pure, h, newRow, run_newObj]
  unfold OpR; rw [e2]
  exact ⟨fun _ => x, _, k _, s2⟩
end
end Go.Sx
