/- Rows of elements; facts that a state gives. -/
import Derived.Laws.BytesArg
import Derived.Laws.BytesString
import Derived.Test.YtijjjdljdjnbaaaSx8
namespace Go.Sx
open Go

/-! ### rows of elements -/
theorem int_eq {k : IntKind} {a b : Int} (h : a = b) : some (Value.int k a) = some (.int k b) := by rw [h]
theorem gm {α : Type} [Inhabited α] {g : α → Value} {xs : List α} {i : Nat} (h : i < xs.length) : (xs.map g)[i * 1]? = some (g xs[i]!) := by
  rw [Nat.mul_one, List.getElem?_map, List.getElem?_eq_getElem h, getElem!_pos xs i h]; rfl
theorem flat_len {α : Type} {enc : α → List Value} {sz : Nat} (hl : ∀ x, (enc x).length = sz) (xs : List α) : (xs.flatMap enc).length = xs.length * sz := by
  induction xs with
  | nil => simp
  | cons x xs ih => rw [List.flatMap_cons, List.length_append, hl, ih, List.length_cons, Nat.succ_mul, Nat.add_comm]
theorem flat_drop {α : Type} {enc : α → List Value} {sz : Nat} (hl : ∀ x, (enc x).length = sz) : ∀ (xs : List α) (i : Nat), (xs.flatMap enc).drop (i * sz) = (xs.drop i).flatMap enc
  | xs, 0 => by simp
  | [], i + 1 => by simp
  | x :: xs, i + 1 => by
    rw [List.flatMap_cons, List.drop_succ_cons, ← flat_drop hl xs i, Nat.succ_mul, Nat.add_comm, List.drop_append, hl]
    simp [List.drop_eq_nil_of_le, hl]
theorem flat_take {α : Type} {enc : α → List Value} {sz : Nat} (hl : ∀ x, (enc x).length = sz) : ∀ (xs : List α) (i : Nat), (xs.flatMap enc).take (i * sz) = (xs.take i).flatMap enc
  | xs, 0 => by simp
  | [], i + 1 => by simp
  | x :: xs, i + 1 => by
    rw [List.flatMap_cons, List.take_succ_cons, List.flatMap_cons, ← flat_take hl xs i, Nat.succ_mul, Nat.add_comm, List.take_append, hl, List.take_of_length_le (by rw [hl]; omega)]
    simp
theorem gf {α : Type} [Inhabited α] {enc : α → List Value} {sz : Nat} (hl : ∀ x, (enc x).length = sz) {xs : List α} {i : Nat} (h : i < xs.length) : ((xs.flatMap enc).drop (i * sz)).take sz = enc xs[i]! := by
  rw [flat_drop hl, getElem!_pos xs i h, List.drop_eq_getElem_cons h, List.flatMap_cons, List.take_append_of_le_length (by rw [hl]; exact Nat.le_refl _), List.take_of_length_le (by rw [hl]; exact Nat.le_refl _)]
theorem gfe {α : Type} [Inhabited α] {enc : α → List Value} {sz : Nat} (hl : ∀ x, (enc x).length = sz) {xs : List α} {i o : Nat} {u : Value} (h : i < xs.length) (ho : (enc xs[i]!)[o]? = some u) : (xs.flatMap enc)[i * sz + o]? = some u := by
  have h1 := gf hl h
  rw [← h1] at ho
  rw [List.getElem?_take] at ho
  split at ho
  · rw [List.getElem?_drop] at ho; exact ho
  · cases ho
theorem map_set {α : Type} {g : α → Value} {xs : List α} {i : Nat} {x : α} (h : i < xs.length) : (xs.map g).take (i * 1) ++ [g x] ++ (xs.map g).drop (i * 1 + 1) = (xs.set i x).map g := by
  rw [Nat.mul_one]
  rw [List.map_set, List.set_eq_take_append_cons_drop, if_pos (by simpa using h)]
  simp
theorem flat_set {α : Type} {enc : α → List Value} {sz : Nat} (hl : ∀ x, (enc x).length = sz) {xs : List α} {i : Nat} {x : α} (h : i < xs.length) : (xs.flatMap enc).take (i * sz) ++ enc x ++ (xs.flatMap enc).drop (i * sz + sz) = (xs.set i x).flatMap enc := by
  rw [flat_take hl, show i * sz + sz = (i + 1) * sz by rw [Nat.succ_mul], flat_drop hl, List.set_eq_take_append_cons_drop, if_pos h]
  simp
theorem all_map {α : Type} {g : α → Value} (h : ∀ x, (g x).oneCell' = true) (xs : List α) : (xs.map g).all (·.oneCell') = true := by
  simp [h]
theorem all_flat {α : Type} {enc : α → List Value} (h : ∀ x, (enc x).all (·.oneCell') = true) (xs : List α) : (xs.flatMap enc).all (·.oneCell') = true := by
  rw [List.all_flatMap, List.all_eq_true]; exact fun x _ => h x
theorem rep_map {α : Type} {g : α → Value} (x : α) (m : Nat) : (List.replicate m [g x]).flatten = (List.replicate m x).map g := by
  induction m with
  | zero => rfl
  | succ m ih => simp [List.replicate_succ, ih]
theorem rep_flat {α : Type} {enc : α → List Value} (x : α) (m : Nat) : (List.replicate m (enc x)).flatten = (List.replicate m x).flatMap enc := by
  induction m with
  | zero => rfl
  | succ m ih => simp [List.replicate_succ, ih]

theorem Rd.sl2 {E : Env} {H : List HProp} {sz m : Nat} {v : Value} {vs : List Value} (h : Sl E H sz v m vs) {p o : Nat} {u : Value} (hj : vs[p + o]? = some u) : Rd E H (blkOf v) (offOf v + p + o) u := by
  rw [Nat.add_assoc]; exact Rd.sl h hj

/-! ### what a state gives -/
section
variable {P : Program} {n : Nat} {f : Fr} {E : Env} {H : List HProp} {K : Kont}
theorem Body.pure {c : Code} {p : Prop} (hp : ∀ w, St E H w → p) (h : p → Body P n c f E H K) : Body P n c f E H K := fun w a r d s => h (hp w s) w a r d s
theorem Ops.pure {all : Array Oper} {l : List Oper} {p : Prop} (hp : ∀ w, St E H w → p) (h : p → Ops P n all l f E H K) : Ops P n all l f E H K := fun w a r d s => h (hp w s) w a r d s
theorem AB.pure {ops : Array Oper} {k : Nat} {listed : Array Bool} {p : Prop} (hp : ∀ w, St E H w → p) (h : p → AB P n ops k listed f E H K) : AB P n ops k listed f E H K := fun hc w a r d s => h (hp w s) hc w a r d s
theorem Stp.pure {q : Bool} {o : Oper} {K : Value → List HProp → Prop} {p : Prop} (hp : ∀ w, St E H w → p) (h : p → Stp q P n f E H o K) : Stp q P n f E H o K := fun w a r s => h (hp w s) w a r s
theorem Does.pure {g : FuncId} {args : Array Value} {Q : Value → List HProp → Prop} {p : Prop} (hp : ∀ w, St E H w → p) (h : p → Does P g args E H Q) : Does P g args E H Q := fun w s => h (hp w s) w s
theorem Ops.conseq {all : Array Oper} {l : List Oper} {K : Kont} {H' : List HProp} (hs : ∀ w, St E H w → St E H' w) (h : Ops P n all l f E H' K) : Ops P n all l f E H K := fun w a r d s => h w a r d (hs w s)

section
variable {f : Fr} {d : Option Nat} {ty : TypeId} {pos : String} {aft : Array Edge} {g : Option (Nat × Bool)} {x lo hi : Operand} {t e : TypeId} {sz m : Nat} {v : Value} {vs : List Value} {k1 k2 : IntKind} {a b : Int}
theorem Dtu.slLH (l h : Nat) (ht : P.underlying t = some (.slice e)) (hz : ∀ w, (sizeOf e).run P w = .ok sz w) (hs : Sl E H sz v m vs) (hx : ev f x = v) (hlo : ev f lo = .int k1 a) (hhi : ev f hi = .int k2 b) (ha : a = (l : Int)) (hb : b = (h : Int)) (h1 : l ≤ h) (h2 : h ≤ m) :
    Dtu P n f E H ⟨d, .slice t x (some lo) (some hi) none, ty, pos, aft, g⟩ (subSl v sz l h (capOf v)) := Dtu.slc ht hz hs hx ⟨k1, ha ▸ hlo⟩ ⟨k2, hb ▸ hhi⟩ h1 h2
theorem Dtu.slL (l : Nat) (ht : P.underlying t = some (.slice e)) (hz : ∀ w, (sizeOf e).run P w = .ok sz w) (hs : Sl E H sz v m vs) (hx : ev f x = v) (hlo : ev f lo = .int k1 a) (ha : a = (l : Int)) (h1 : l ≤ m) :
    Dtu P n f E H ⟨d, .slice t x (some lo) none none, ty, pos, aft, g⟩ (subSl v sz l m (capOf v)) := Dtu.slc ht hz hs hx ⟨k1, ha ▸ hlo⟩ rfl h1 (Nat.le_refl _)
theorem Dtu.slH (h : Nat) (ht : P.underlying t = some (.slice e)) (hz : ∀ w, (sizeOf e).run P w = .ok sz w) (hs : Sl E H sz v m vs) (hx : ev f x = v) (hhi : ev f hi = .int k2 b) (hb : b = (h : Int)) (h2 : h ≤ m) :
    Dtu P n f E H ⟨d, .slice t x none (some hi) none, ty, pos, aft, g⟩ (subSl v sz 0 h (capOf v)) := Dtu.slc ht hz hs hx rfl ⟨k2, hb ▸ hhi⟩ (Nat.zero_le _) h2
theorem Dtu.slA (ht : P.underlying t = some (.slice e)) (hz : ∀ w, (sizeOf e).run P w = .ok sz w) (hs : Sl E H sz v m vs) (hx : ev f x = v) :
    Dtu P n f E H ⟨d, .slice t x none none none, ty, pos, aft, g⟩ (subSl v sz 0 m (capOf v)) := Dtu.slc ht hz hs hx rfl rfl (Nat.zero_le _) (Nat.le_refl _)
end
/-- a part of a row of plain elements -/
theorem Sl.subM {α : Type} {gg : α → Value} {xs : List α} {m : Nat} {v : Value} (h : Sl E H 1 v m (xs.map gg)) (lo hi : Nat) (h1 : lo ≤ hi) (h2 : hi ≤ m) : Sl E H 1 (subSl v 1 lo hi (capOf v)) (hi - lo) (((xs.drop lo).take (hi - lo)).map gg) :=
  h.sub' lo hi h1 h2 (by simp only [Nat.mul_one, List.map_take, List.map_drop])
theorem Sl.subF {α : Type} {enc : α → List Value} {sz : Nat} (hl : ∀ x, (enc x).length = sz) {xs : List α} {m : Nat} {v : Value} (h : Sl E H sz v m (xs.flatMap enc)) (lo hi : Nat) (h1 : lo ≤ hi) (h2 : hi ≤ m) : Sl E H sz (subSl v sz lo hi (capOf v)) (hi - lo) (((xs.drop lo).take (hi - lo)).flatMap enc) :=
  h.sub' lo hi h1 h2 (by rw [flat_drop hl, flat_take hl])

/-- copy, of rows of elements -/
theorem Stp.copyF (i : Nat) {α : Type} {enc : α → List Value} {sz : Nat} (hle : ∀ x, (enc x).length = sz) {f : Fr} {d : Option Nat} {ty : TypeId} {pos : String} {aft : Array Edge} {g : Option (Nat × Bool)} {x y : Operand} {K : Value → List HProp → Prop} {t t' e : TypeId} {m lo dl k : Nat} {v dv u : Value} {xs ys : List α} {H' : List HProp}
    (ht : P.underlying t = some (.slice e)) (hz : ∀ w, (sizeOf e).run P w = .ok sz w) (hi : H[i]? = some (osl e sz v m (xs.flatMap enc))) (hx : ev f x = dv) (hd : LiesIn E H v sz dv lo dl) (hle2 : lo + dl ≤ m) (hy : ev f y = u) (hs : Sl E H sz u k (ys.flatMap enc)) (h1 : ∀ x, (enc x).all (·.oneCell') = true)
    (hH : setL H i (osl e sz v m ((xs.take lo ++ ys.take (Nat.min k dl) ++ xs.drop (lo + Nat.min k dl)).flatMap enc)) = some H') (kk : K (.int .i64 (Nat.min k dl : Nat)) H') :
    Stp false P n f E H ⟨d, .call { callee := .builtin .copy, args := #[x, y], argTypes := #[t, t'] }, ty, pos, aft, g⟩ K := by
  obtain rfl := setL_eq hH
  refine Stp.copy i ht hz hi hx hd hle2 hy hs (all_flat h1 _) ?_
  rw [flat_take hle, flat_take hle, flat_drop hle, ← List.flatMap_append, ← List.flatMap_append]
  exact kk
theorem Stp.copyM (i : Nat) {α : Type} {gg : α → Value} {f : Fr} {d : Option Nat} {ty : TypeId} {pos : String} {aft : Array Edge} {g : Option (Nat × Bool)} {x y : Operand} {K : Value → List HProp → Prop} {t t' e : TypeId} {m lo dl k : Nat} {v dv u : Value} {xs ys : List α} {H' : List HProp}
    (ht : P.underlying t = some (.slice e)) (hz : ∀ w, (sizeOf e).run P w = .ok 1 w) (hi : H[i]? = some (osl e 1 v m (xs.map gg))) (hx : ev f x = dv) (hd : LiesIn E H v 1 dv lo dl) (hle2 : lo + dl ≤ m) (hy : ev f y = u) (hs : Sl E H 1 u k (ys.map gg)) (h1 : ∀ x, (gg x).oneCell' = true)
    (hH : setL H i (osl e 1 v m ((xs.take lo ++ ys.take (Nat.min k dl) ++ xs.drop (lo + Nat.min k dl)).map gg)) = some H') (kk : K (.int .i64 (Nat.min k dl : Nat)) H') :
    Stp false P n f E H ⟨d, .call { callee := .builtin .copy, args := #[x, y], argTypes := #[t, t'] }, ty, pos, aft, g⟩ K := by
  obtain rfl := setL_eq hH
  refine Stp.copy i ht hz hi hx hd hle2 hy hs (all_map h1 _) ?_
  simp only [Nat.mul_one, ← List.map_take, ← List.map_drop, ← List.map_append]
  exact kk

/-- a store into a row of plain elements -/
theorem Stp.storeM (i : Nat) {α : Type} {gg : α → Value} {xs : List α} {k : Nat} {e : α} {f : Fr} {d : Option Nat} {ty : TypeId} {pos : String} {aft : Array Edge} {g : Option (Nat × Bool)} {x y : Operand} {K : Value → List HProp → Prop} {T t : TypeId} {m : Nat} {v : Value} {H' : List HProp}
    (hm : ∀ w, (sizeOf T).run P w = .ok 1 w) (hi : H[i]? = some (osl t 1 v m (xs.map gg))) (hx : ev f x = .pointer (some ⟨blkOf v, offOf v + k * 1, none⟩)) (hy : ev f y = gg e) (hc : ∀ e, (gg e).cells = [gg e].toArray) (h1 : (gg e).oneCell' = true)
    (hl : k < xs.length) (hH : setL H i (osl t 1 v m ((xs.set k e).map gg)) = some H') (kk : K undef H') : Stp false P n f E H ⟨d, .store T x y, ty, pos, aft, g⟩ K := by
  obtain rfl := setL_eq hH
  refine Stp.storeS i (p := k * 1) (us := [gg e]) hm hi hx hy (hc e) (by simp; omega) (by simp) (by simp [h1]) ?_
  rw [show (k * 1 + [gg e].length) = k * 1 + 1 from rfl, map_set hl]
  exact kk

def isNil : Value → Bool
  | .slice none _ _ => true
  | _ => false
theorem Dtu.nilS {t t' e : TypeId} {sz m : Nat} {v : Value} {vs : List Value} {f : Fr} {d : Option Nat} {ty : TypeId} {pos : String} {aft : Array Edge} {g : Option (Nat × Bool)} {x : Operand} (ht : P.underlying t = some (.slice e)) (h : Sl E H sz v m vs) (hx : ev f x = v) :
    Dtu P n f E H ⟨d, .binOp .eql t x (.const (.slice none 0 0)) t', ty, pos, aft, g⟩ (.bool (isNil v)) := fun w0 s w a' r => by
  obtain ⟨_, _, a, e⟩ := (h w0 s).cap
  generalize capOf v = c at e
  subst e
  have e1 : (eqGuard .eql t x (.const (.slice none 0 0)) (.slice a m c) (.slice none 0 0)).run P w = .ok () w := rfl
  have e2 := Lib.run_eql_slice_nil (P := P) w t e a m c 0 0 ht
  have ey : ev f (.const (.slice none 0 0)) = .slice none 0 0 := rfl
  simp only [execOp, r.eval, hx, ey, Sem.run_bind, e1, Result.andThen_ok, e2, Sem.run_pure]
  cases a <;> rfl
theorem Dtu.neNilS {t t' e : TypeId} {sz m : Nat} {v : Value} {vs : List Value} {f : Fr} {d : Option Nat} {ty : TypeId} {pos : String} {aft : Array Edge} {g : Option (Nat × Bool)} {x : Operand} (ht : P.underlying t = some (.slice e)) (h : Sl E H sz v m vs) (hx : ev f x = v) :
    Dtu P n f E H ⟨d, .binOp .neq t x (.const (.slice none 0 0)) t', ty, pos, aft, g⟩ (.bool (!isNil v)) := fun w0 s w a' r => by
  obtain ⟨_, _, a, e⟩ := (h w0 s).cap
  generalize capOf v = c at e
  subst e
  have e1 : (eqGuard .neq t x (.const (.slice none 0 0)) (.slice a m c) (.slice none 0 0)).run P w = .ok () w := rfl
  have e2 := Go.run_neq_slice_nil_any (P := P) w t e a m c 0 0 ht
  have ey : ev f (.const (.slice none 0 0)) = .slice none 0 0 := rfl
  simp only [execOp, r.eval, hx, ey, Sem.run_bind, e1, Result.andThen_ok, e2, Sem.run_pure]
  cases a <;> rfl
theorem Sl.nil0 {sz m : Nat} {v : Value} {vs : List Value} (h : Sl E H sz v m vs) (hn : isNil v = true) : ∀ w, St E H w → m = 0 ∧ vs = [] := fun w s => by
  have k := h w s
  rcases k.val with ⟨rfl, _⟩ | ⟨cap, e, _⟩
  · exact ⟨rfl, List.eq_nil_of_length_eq_zero (by simpa using k.len)⟩
  · rw [e] at hn; cases hn

def IsSl (v : Value) : Prop := ∃ a m c, v = .slice a m c
theorem IsSl.cells {v : Value} (h : IsSl v) : v.cells = [v].toArray := by obtain ⟨a, m, c, rfl⟩ := h; rfl
theorem IsSl.one {v : Value} (h : IsSl v) : v.oneCell' = true := by obtain ⟨a, m, c, rfl⟩ := h; rfl
theorem Sl.isSl {sz m : Nat} {v : Value} {vs : List Value} (h : Sl E H sz v m vs) : ∀ w, St E H w → IsSl v := fun w s => let ⟨_, _, a, e⟩ := (h w s).cap; ⟨a, m, _, e⟩
theorem Sl.len {sz m : Nat} {v : Value} {vs : List Value} (h : Sl E H sz v m vs) : ∀ w, St E H w → vs.length = m * sz ∧ m ≤ 9223372036854775807 := fun w s => ⟨(h w s).len, by have := (h w s).max; simpa [maxLen] using this⟩
theorem Stp.buildSlice0 {f : Fr} {d : Option Nat} {ty : TypeId} {pos : String} {aft : Array Edge} {g : Option (Nat × Bool)} {T e : TypeId} {sz bytes : Nat} {zs : List Value} {K : Value → List HProp → Prop} (hu : P.underlying T = some (.slice e)) (ht : Ty P e sz bytes zs)
    (k : ∀ b, K (.slice (some ⟨b, 0, none⟩) 0 0) H) : Stp true P n f E H ⟨d, .buildSlice T 0 #[], ty, pos, aft, g⟩ K := fun w a r s => by
  obtain ⟨s2, x⟩ := s.alloc [] e
  have e2 : (execOp a.eval ⟨d, .buildSlice T 0 #[], ty, pos, aft, g⟩).run P w = .ok (.value (.slice (some ⟨w.heap.size, 0, none⟩) 0 0)) { w with heap := w.heap.push (.cells ([] : List Value).toArray e (0, 0)) } := by
    have hr : Array.range 0 = #[] := Array.eq_empty_of_size_eq_zero (by simp)
    simp [execOp, Instr.buildSlice, run_underlying hu, ht.size, newRow, Instr.fill, hr]
  unfold OpR; rw [e2]
  exact ⟨fun _ => x, _, k _, s2.drop⟩
end
section
variable {P : Program} {n : Nat} {f : Fr} {E : Env} {H : List HProp} {d : Option Nat} {ty : TypeId} {pos : String} {aft : Array Edge} {g : Option (Nat × Bool)} {x y z : Operand}
/-- a []byte, as a text -/
theorem Det.bstr {t t' e : TypeId} {v : Value} {m : Nat} {ns : List Int} (hs : P.underlying t = some (.slice e)) (he : P.underlying e = some (.int .u8)) (hd : P.underlying t' = some .string) (hx : ev f x = v) (h : Sl E H 1 v m (ns.map (.int .u8))) :
    Det P n f E H ⟨d, .convert t t' x, ty, pos, aft, g⟩ (.string (strOfNums ns)) := fun w a r s => by
  have q := h w s
  have hl : ns.length = m := by have := q.len; simpa using this
  have key : (convert t t' v).run P w = .ok (.string (strOfNums ns)) w := by
    rcases q.val with ⟨rfl, a, c, rfl, _⟩ | ⟨cap, hv, _, _, hc⟩
    · have : ns = [] := List.length_eq_zero_iff.1 hl
      subst this
      cases a with
      | none => exact run_convert_bytes_nil w t e hs he 0 c t' hd
      | some a =>
        rw [run_convert_bytes_string w t t' e _ 0 c hs he hd, run_bytesToString w a 0 c [] (by simpa using run_loadCells_list (P := P) w a [] (fun j v hj => by simp at hj))]
        rfl
    · rw [hv]
      exact run_convert_bytes_arg w t e hs he _ _ m cap ns hl (fun i hi => by
        have := hc i (.int .u8 (ns.getD i 0)) (by simp [List.getElem?_map, List.getD, List.getElem?_eq_getElem (show i < ns.length by omega)])
        exact this) t' hd
  simp only [execOp, r.eval, hx, run_v, key, Result.andThen_ok]
theorem strOfNums_inj {xs ys : List Int} (hx : ∀ i, i < xs.length → 0 ≤ xs[i]! ∧ xs[i]! < 256) (hy : ∀ i, i < ys.length → 0 ≤ ys[i]! ∧ ys[i]! < 256) : ((strOfNums xs).toList = (strOfNums ys).toList) ↔ xs = ys := by
  constructor
  · intro h
    have h2 : xs.map (fun n => UInt8.ofNat n.toNat) = ys.map (fun n => UInt8.ofNat n.toNat) := by
      rw [ByteArray.toList_eq, ByteArray.toList_eq] at h
      simpa [strOfNums_data] using h
    have hl : xs.length = ys.length := by simpa using congrArg List.length h2
    refine List.ext_getElem hl fun i h3 h4 => ?_
    have h5 := congrArg (fun l => l[i]?) h2
    simp only [List.getElem?_map, List.getElem?_eq_getElem h3, List.getElem?_eq_getElem h4, Option.map_some, Option.some.injEq] at h5
    have a1 := hx i h3
    have a2 := hy i h4
    rw [getElem!_pos xs i h3] at a1
    rw [getElem!_pos ys i h4] at a2
    have h6 := congrArg UInt8.toNat h5
    simp only [UInt8.toNat_ofNat'] at h6
    omega
  · rintro rfl; rfl
end
end Go.Sx
