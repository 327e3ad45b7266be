/- Qm: SxE, EchA, EchB, EchC, EchD, EchE, EchF, EchG, EchI, EchJ, EchH, OpenL. -/
import Derived.Deep.Slices
import Derived.Test.YtijjjdljdjnbaaaRsa
import Derived.Test.YtijjjdljdjnbaaaRsb
import Derived.Test.YtijjjdljdjnbaaaRsc
import Derived.Test.YtijjjdljdjnbaaaRsd
import Derived.Test.YtijjjdljdjnbaaaRse
import Derived.Test.YtijjjdljdjnbaaaRsf
import Derived.Test.YtijjjdljdjnbaaaRsg
import Derived.Test.YtijjjdljdjnbaaaRsh
import Derived.Test.YtijjjdljdjnbaaaRsi
section
/- My own logic of ownership over the model, part E: owned slices that are only read, or nil; slices of structs that come in. -/
namespace Go.Sx
open Go Go.ChangeShapes
set_option linter.unusedVariables false
/-- a slice that is only read: owned, or of no elements -/
def vsl (sz : Nat) (v : Value) (m : Nat) (vs : List Value) : HProp := fun h =>
  (∃ (a : Option Addr) (c : Nat), v = .slice a 0 c ∧ c ≤ maxLen ∧ m = 0 ∧ vs = [] ∧ h = Hp.emp) ∨ rsl sz v m vs h
theorem vsl_cases {E : Env} {H : List HProp} {sz m : Nat} {v : Value} {vs : List Value} {w : World} (s : St E (vsl sz v m vs :: H) w) :
    (∃ a c, v = .slice a 0 c ∧ c ≤ maxLen ∧ m = 0 ∧ vs = [] ∧ St E H w) ∨ St E (rsl sz v m vs :: H) w := by
  obtain ⟨h, ⟨h1, h2, ho, s2, d, rfl⟩, dE, l⟩ := s.has
  rcases ho with ⟨a, c, e1, e2, e3, e4, rfl⟩ | ho
  · exact .inl ⟨a, c, e1, e2, e3, e4, s.drop⟩
  · exact .inr ⟨⟨_, ⟨_, h2, ho, s2, d, rfl⟩, dE, l⟩, s.keep, s.os, s.tape, s.output⟩
theorem vsl_nil {E : Env} {H : List HProp} {sz c : Nat} {a : Option Addr} {w : World} (hc : c ≤ 9223372036854775807) (s : St E H w) : St E (vsl sz (.slice a 0 c) 0 [] :: H) w := by
  obtain ⟨h, sh, dE, l⟩ := s.has
  exact ⟨⟨h, ⟨Hp.emp, h, .inl ⟨a, c, rfl, by unfold maxLen; exact hc, rfl, rfl, rfl⟩, sh, Hp.emp_disj _, rfl⟩, dE, l⟩, s.keep, s.os, s.tape, s.output⟩
theorem vsl_osl {E : Env} {H : List HProp} {t : TypeId} {sz m : Nat} {v : Value} {vs : List Value} {w : World} (s : St E (osl t sz v m vs :: H) w) : St E (vsl sz v m vs :: H) w := by
  obtain ⟨h, ⟨h1, h2, ho, s2, d, rfl⟩, dE, l⟩ := s.has
  rcases ho with ⟨a, e1, e2, e3, rfl⟩ | ⟨b, cap, rest, e1, e2, e3, e4, e5, rfl⟩
  · subst e1; subst e2; subst e3
    exact vsl_nil (by omega) s.drop
  · refine ⟨⟨_, ⟨_, h2, .inr ⟨b, cap, (vs ++ rest).toArray, t, (0, 0), e1, e2, e3, e4, fun j u hj => ?_, rfl⟩, s2, d, rfl⟩, dE, l⟩, s.keep, s.os, s.tape, s.output⟩
    rw [List.getElem?_toArray, List.getElem?_append_left (List.getElem?_eq_some_iff.1 hj).1]; exact hj
theorem Sl.vsl {E : Env} {H : List HProp} (i : Nat) {sz m : Nat} {v : Value} {vs : List Value} (hi : H[i]? = some (Sx.vsl sz v m vs)) : Sl E H sz v m vs := fun w s => by
  rcases vsl_cases (s.get hi) with ⟨a, c, rfl, h2, rfl, rfl, _⟩ | s2
  · exact ⟨by simp, Nat.zero_le _, .inl ⟨rfl, a, c, rfl, h2⟩⟩
  · exact Sl.rsl 0 (H := Sx.rsl sz v m vs :: H.eraseIdx i) rfl w s2
theorem Sl.atV {E : Env} {sz m : Nat} {v : Value} {vs : List Value} (h : At (Sx.vsl sz v m vs) E) : Sl E [] sz v m vs := by
  obtain ⟨x, hx, le⟩ := h
  rcases hx with ⟨a, c, rfl, h2, rfl, rfl, _⟩ | hx
  · exact fun w s => ⟨by simp, Nat.zero_le _, .inl ⟨rfl, a, c, rfl, h2⟩⟩
  · exact Sl.atR ⟨x, hx, le⟩
/-- the first ones alone -/
theorem vsl_pre {E : Env} {H : List HProp} {sz m n : Nat} {a : Option Addr} {c : Nat} {vs : List Value} {w : World} (hn : n ≤ m) (s : St E (vsl sz (.slice a m c) m vs :: H) w) : St E (vsl sz (subSl (.slice a m c) sz 0 n n) n (vs.take (n * sz)) :: H) w := by
  rcases vsl_cases s with ⟨a', c', e, h2, rfl, rfl, s2⟩ | s2
  · obtain rfl : n = 0 := by omega
    simp only [subSl, if_true, List.take_nil]
    exact vsl_nil (by omega) s2
  · obtain ⟨h, ⟨h1, h2, ⟨b, cap, cs, t, p, e1, e2, e3, e4, e5, rfl⟩, s3, d, rfl⟩, dE, l⟩ := s2.has
    injection e1 with e1 e1' e1''
    subst e1; subst e1''
    by_cases h0 : n = 0
    · subst h0
      simp only [subSl, if_true, Nat.zero_mul, List.take_zero]
      exact vsl_nil (by omega) s2.drop
    · have e : subSl (.slice (some ⟨b, 0, none⟩) m c) sz 0 n n = .slice (some ⟨b, 0, none⟩) n n := by
        simp only [subSl, h0, if_false, Option.map_some, addr_add, Nat.zero_mul, Nat.add_zero, Nat.sub_zero]
      rw [e]
      refine ⟨⟨_, ⟨_, h2, .inr ⟨b, n, cs, t, p, rfl, ?_, Nat.le_refl _, by omega, fun j u hj => ?_, rfl⟩, s3, d, rfl⟩, dE, l⟩, s2.keep, s2.os, s2.tape, s2.output⟩
      · have : n * sz ≤ m * sz := Nat.mul_le_mul_right _ hn
        simp; omega
      · rw [List.getElem?_take] at hj
        split at hj
        · exact e5 j u hj
        · cases hj
theorem Sl.lit {E : Env} {H : List HProp} {sz m k c : Nat} {a : Option Addr} {vs : List Value} (h : Sl E H sz (.slice a m c) k vs) : ∀ w, St E H w → m = k ∧ k ≤ c ∧ c ≤ 9223372036854775807 := fun w s => by
  obtain ⟨h1, h2, _⟩ := (h w s).cap
  simp only [capOf] at h1 h2
  exact ⟨Sl.litLen h w s, h1, by unfold maxLen at h2; exact h2⟩
/-- some of what is owned is handed back, and a slice of no elements -/
theorem pkN {E : Env} {H C D : List HProp} (is : List Nat) (sz : Nat) (h : pick is H = some (C, D)) : ∀ w, St E H w → St E (C ++ [vsl sz (.slice none 0 0) 0 []]) w := fun w s =>
  (vsl_nil (sz := sz) (a := none) (c := 0) (by omega) (pk is h w s)).perm (List.perm_append_singleton _ _).symm
/-- some of what is owned is handed back, and the first of it as one that is only read -/
theorem pkO {E : Env} {H C D : List HProp} {t : TypeId} {sz m : Nat} {v : Value} {vs : List Value} (is : List Nat) (h : pick is H = some (osl t sz v m vs :: C, D)) : ∀ w, St E H w → St E (C ++ [vsl sz v m vs]) w := fun w s =>
  (vsl_osl (pk is h w s)).perm (List.perm_append_singleton _ _).symm
theorem pkP {E : Env} {H C D : List HProp} {sz m n : Nat} {a : Option Addr} {c : Nat} {vs : List Value} (is : List Nat) (hn : n ≤ m) (h : pick is H = some (vsl sz (.slice a m c) m vs :: C, D)) : ∀ w, St E H w → St E (C ++ [vsl sz (subSl (.slice a m c) sz 0 n n) n (vs.take (n * sz))]) w := fun w s =>
  (vsl_pre hn (pk is h w s)).perm (List.perm_append_singleton _ _).symm
section
variable {P : Program} {n : Nat} {f : Fr} {E : Env} {H : List HProp}
theorem AB.conseq {ops : Array Oper} {k : Nat} {listed : Array Bool} {K : Kont} {H' : List HProp} (hs : ∀ w, St E H w → St E H' w) (h : AB P n ops k listed f E H' K) : AB P n ops k listed f E H K := fun hc w a r d s => h hc w a r d (hs w s)
theorem Does.conseq {g : FuncId} {args : Array Value} {Q : Value → List HProp → Prop} {H' : List HProp} (hs : ∀ w, St E H w → St E H' w) (h : Does P g args E H' Q) : Does P g args E H Q := fun w s => h w (hs w s)
end
section
variable {P : Program} {n : Nat} {f : Fr} {E : Env} {H : List HProp} {d : Option Nat} {ty : TypeId} {pos : String} {aft : Array Edge} {g : Option (Nat × Bool)} {x lo hi mx : Operand} {t e : TypeId} {sz m : Nat} {v : Value} {vs : List Value} {k1 k2 k3 : IntKind} {a b c : Int}
theorem Dtu.slHM (h c3 : Nat) (ht : P.underlying t = some (.slice e)) (hz : ∀ w, (sizeOf e).run P w = .ok sz w) (hs : Sl E H sz v m vs) (hx : ev f x = v) (hhi : ev f hi = .int k2 b) (hmx : ev f mx = .int k3 c) (hb : b = (h : Int)) (hc : c = (c3 : Int)) (h2 : h ≤ c3) (h3 : c3 ≤ m) :
    Dtu P n f E H ⟨d, .slice t x none (some hi) (some mx), ty, pos, aft, g⟩ (subSl v sz 0 h c3) := Dtu.slc3' ht hz hs hx (hb ▸ hhi) (hc ▸ hmx) h2 h3
end
section
variable {P : Program} {n : Nat} {f : Fr} {E : Env} {H : List HProp} {K : Kont} {ops : Array Oper} {k : Nat} {listed : Array Bool} {F : List Ent} {dd : Nat} {op : Op} {ty : TypeId} {pos : String} {aft : Array Edge} {v : Value}
theorem AWI.s {q : Bool} {i : Nat} (hi : ops[i]? = some ⟨some dd, op, ty, pos, aft, none⟩) (h : Stp q P n (fr F) E H ⟨some dd, op, ty, pos, aft, none⟩ fun v H' => AW P n ops k (listed.setIfInBounds i true) (fr (.set dd v :: F)) E H' K) (hd : Nat.blt dd n = true) : AWI P n ops k listed (fr F) E H K i := AWI.mk hi rfl hd h
theorem AW.pure {p : Prop} (hp : ∀ w, St E H w → p) (h : p → AW P n ops k listed f E H K) : AW P n ops k listed f E H K := fun w a r d s => h (hp w s) w a r d s
theorem AW.conseq {H' : List HProp} (hs : ∀ w, St E H w → St E H' w) (h : AW P n ops k listed f E H' K) : AW P n ops k listed f E H K := fun w a r d s => h w a r d (hs w s)
end
theorem flatLenE {α : Type} {en : α → List Value} {sz : Nat} (hl : ∀ x, (en x).length = sz) (l : List α) : (l.flatMap en).length = l.length * sz := by
  induction l with
  | nil => simp
  | cons c t ih => rw [List.flatMap_cons, List.length_append, ih, hl, List.length_cons, Nat.add_mul, Nat.one_mul, Nat.add_comm]
theorem flat_upd {α : Type} [Inhabited α] {en : α → List Value} {sz : Nat} (hl : ∀ x, (en x).length = sz) {xs : List α} {i o : Nat} (hi : i < xs.length) (ho : o < sz) {y : α} {v : Value} (hy : en y = (en xs[i]!).set o v) :
    (xs.flatMap en).take (i * sz + o) ++ [v] ++ (xs.flatMap en).drop (i * sz + o + 1) = (xs.set i y).flatMap en := by
  have hx : xs = xs.take i ++ xs[i]! :: xs.drop (i + 1) := by
    rw [getElem!_pos xs i hi, ← List.drop_eq_getElem_cons hi, List.take_append_drop]
  have hA : ((xs.take i).flatMap en).length = i * sz := by
    have : ((xs.take i).flatMap en).length = (xs.take i).length * sz := by
      generalize xs.take i = l
      induction l with
      | nil => simp
      | cons c t ih => rw [List.flatMap_cons, List.length_append, ih, hl, List.length_cons, Nat.add_mul, Nat.one_mul, Nat.add_comm]
    rw [this, List.length_take, Nat.min_eq_left (by omega)]
  have e1 : xs.flatMap en = (xs.take i).flatMap en ++ (en xs[i]! ++ (xs.drop (i + 1)).flatMap en) := by
    conv => lhs; rw [hx]
    rw [List.flatMap_append, List.flatMap_cons]
  have hx0 := hl xs[i]!
  rw [List.set_eq_take_append_cons_drop, if_pos hi, List.flatMap_append, List.flatMap_cons, hy, e1, ← hA, List.take_length_add_append, Nat.add_assoc, List.drop_length_add_append, List.take_append_of_le_length (by omega), List.drop_append_of_le_length (by omega), List.set_eq_take_append_cons_drop, if_pos (by omega)]
  simp
section
variable {P : Program} {n : Nat} {f : Fr} {E : Env} {H : List HProp}
/-- a store into a part of an element -/
theorem Stp.storeP (i : Nat) {α : Type} [Inhabited α] {en : α → List Value} {sz : Nat} (hl : ∀ x, (en x).length = sz) {xs : List α} {k : Nat} (pre : List Value) {w : Value} {post : List Value} {y : α} {u : Value} {d : Option Nat} {ty : TypeId} {pos : String} {aft : Array Edge} {g : Option (Nat × Bool)} {x z : Operand} {K : Value → List HProp → Prop} {T t : TypeId} {m : Nat} {v : Value} {H' : List HProp}
    (hm : ∀ w, (sizeOf T).run P w = .ok 1 w) (hi : H[i]? = some (osl t sz v m (xs.flatMap en))) (hx : ev f x = .pointer (some ⟨blkOf v, offOf v + k * sz + pre.length, none⟩)) (hz : ev f z = u) (hc : u.cells = [u].toArray) (h1 : u.oneCell' = true)
    (hk : k < xs.length) (hw : en xs[k]! = pre ++ w :: post) (hw2 : en y = pre ++ u :: post) (hH : setL H i (osl t sz v m ((xs.set k y).flatMap en)) = some H') (kk : K undef H') : Stp false P n f E H ⟨d, .store T x z, ty, pos, aft, g⟩ K := by
  have ho : pre.length < sz := by have := hl xs[k]!; rw [hw] at this; simp at this; omega
  have hy : en y = (en xs[k]!).set pre.length u := by rw [hw2, hw]; simp
  clear hw hw2
  obtain rfl := setL_eq hH
  have hlen : (xs.flatMap en).length = xs.length * sz := flatLenE hl xs
  have hb : (k + 1) * sz ≤ xs.length * sz := Nat.mul_le_mul_right _ hk
  rw [Nat.add_mul, Nat.one_mul] at hb
  refine Stp.storeS i (p := k * sz + pre.length) (us := [u]) hm hi (by rw [hx, Nat.add_assoc]) hz hc (by rw [hlen]; simp; omega) (by simp) (by simp [h1]) ?_
  rw [show (k * sz + pre.length + [u].length) = k * sz + pre.length + 1 from rfl, flat_upd hl hk ho hy]
  exact kk
end
/-- an owned block's object is another one -/
theorem St.rewrite {E : Env} {b : Nat} {vs : List Value} {t : TypeId} {H : List HProp} {w w' : World} (s : St E (own b vs t :: H) w) (o : Obj) (A : HProp) (hA : A (Hp.one b o))
    (hb : w'.heap[b]? = some o) (ho : ∀ n, n ≠ b → w'.heap[n]? = w.heap[n]?) (hos : w'.os = w.os) (htape : w'.tape = w.tape) (hout : w'.output = w.output) :
    St E (A :: H) w' := by
  obtain ⟨h, ⟨h1, h2, rfl, s2, d, rfl⟩, dE, l⟩ := s.has
  have h2b : h2 b = none := by
    rcases d b with e | e
    · simp [Hp.one] at e
    · exact e
  have hEb : E.hp b = none := by
    rcases dE b with e | e
    · exact e
    · simp [Hp.union, Hp.one] at e
  have keep : ∀ x : Hp, x b = none → x.Le (hpOf w) → x.Le (hpOf w') := fun x xb lx n o e => by
    by_cases hn : n = b
    · subst hn; rw [xb] at e; cases e
    · show w'.heap[n]? = _; rw [ho n hn]; exact lx n o e
  exact ⟨⟨(Hp.one b o).union h2, ⟨_, h2, hA, s2, Hp.one_disj h2b, rfl⟩,
    Hp.Disj.union_right (Hp.one_disj hEb).symm (dE.le (Hp.Le.refl _) (Hp.le_union_right d)), Hp.union_le (Hp.one_le hb) (keep h2 h2b ((Hp.le_union_right d).trans l))⟩,
    keep _ hEb s.keep, hos.trans s.os, htape.trans s.tape, hout.trans s.output⟩
section
variable {P : Program} {n : Nat} {f : Fr} {E : Env} {H : List HProp} {d : Option Nat} {ty : TypeId} {pos : String} {aft : Array Edge} {g : Option (Nat × Bool)} {x y : Operand} {K : Value → List HProp → Prop}
/-- a constant text's bytes get a mark -/
theorem Stp.cvtMark (i : Nat) {t e : TypeId} {m : Nat} {v : Value} {vs : List Value} {H' : List HProp} (ht : P.underlying t = some (.slice e)) (he : P.underlying e = some (.int .u8)) (hi : H[i]? = some (osl e 1 v m vs)) (hm : 0 < m) (hx : ev f x = v)
    (hH : setL H i (rsl 1 v m vs) = some H') (k : K v H') : Stp false P n f E H ⟨d, .convert t t x, ty, pos, aft, g⟩ K := fun w a r s => by
  obtain rfl := setL_eq hH
  rcases osl_cases (s.get hi) with ⟨a', rfl, h0, _⟩ | ⟨b, cap, rest, rfl, g1, g2, g3, g4, s2⟩
  · omega
  · have hb := s2.block
    have hsh : w.shape? b = some (e, (vs ++ rest).length) := by unfold World.shape?; rw [hb]; simp
    have key : (convert t t (.slice (some ⟨b, 0, none⟩) m cap)).run P w = .ok (.slice (some ⟨b, 0, none⟩) m cap) (w.freeze ⟨b, (vs ++ rest).length, none⟩ 1) := by
      simp only [convert, Sem.run_bind, run_underlying ht, run_underlying he, Result.andThen_ok]
      simp [markStringish, hsh]
    unfold OpR
    have e1 : (execOp a.eval ⟨d, .convert t t x, ty, pos, aft, g⟩).run P w = .ok (.value (.slice (some ⟨b, 0, none⟩) m cap)) (w.freeze ⟨b, (vs ++ rest).length, none⟩ 1) := by
      simp only [execOp, r.eval, hx, run_v, key, Result.andThen_ok]
    rw [e1]
    have hbl : b < w.heap.size := (Array.getElem?_eq_some_iff.1 hb).1
    refine ⟨fun e => (by cases e), _, k, St.put hi (St.rewrite s2 (.cells (vs ++ rest).toArray e ((vs ++ rest).length, (vs ++ rest).length + 1)) (rsl 1 (.slice (some ⟨b, 0, none⟩) m cap) m vs) ⟨b, cap, _, e, _, rfl, g1, g2, g3, fun j u hj => ?_, rfl⟩ ?_ (fun q hq => ?_) rfl rfl rfl)⟩
    · rw [List.getElem?_toArray, List.getElem?_append_left (List.getElem?_eq_some_iff.1 hj).1]; exact hj
    · simp only [World.freeze, if_neg (by decide : ¬ (1 = 0)), Array.getElem?_modify]
      simp [hb]
    · simp only [World.freeze, if_neg (by decide : ¬ (1 = 0)), Array.getElem?_modify]
      rw [if_neg (fun e => hq e.symm)]
theorem Dtu.ixStr {t : TypeId} {s : ByteArray} {kk : IntKind} {iv : Int} (i : Nat) (ht : P.underlying t = some .string) (hx : ev f x = .string s) (hy : ev f y = .int kk iv) (hi : iv = (i : Int)) (hlt : i < s.size) : Dtu P n f E H ⟨d, .index t x y, ty, pos, aft, g⟩ (.int .u8 (numsOf s)[i]!) := fun w0 st w a r => by
  subst hi
  have h1 := run_index_string (P := P) w t s kk (i : Int) ht
  rw [dif_pos ⟨by omega, by omega⟩] at h1
  have h2 : (numsOf s)[i]! = ((s[i]'hlt).toNat : Int) := by
    rw [getElem!_pos _ i (by rw [numsOf_len]; exact hlt)]
    simp only [numsOf, List.getElem_map, Array.getElem_toList]
    rfl
  simp only [execOp, r.eval, hx, hy, run_v, h1, Result.andThen_ok, h2, Int.toNat_natCast]
end
/-! ### what comes in -/
section
variable {P : Program} {A : Type} {enc : TypeId × Value → A} {W : World} {base : Nat} {held : Bool} {fuel : Nat} {cs : List Value} {x : DataW A × List MemPlace}
theorem slNone' (E : Env) (sz : Nat) : Sl E [] sz (.slice none 0 0) 0 [] := Sl.nil
theorem keepCell {E : Env} {Hs : List HProp} {w' : World} (s : St (envOf W) Hs w') {a : Addr} {v : Value} (h : W.cell? a = some v) : w'.cell? a = some v := by
  unfold World.cell? at h ⊢
  cases hb : W.heap[a.block]? with
  | none => rw [hb] at h; cases h
  | some o =>
    have hk : w'.heap[a.block]? = some o := s.keep _ _ hb
    rw [hb] at h; rw [hk]; exact h
theorem spotNone {a : Addr} {v : Value} (h : W.cell? a = some v) : a.spot = none := by
  unfold World.cell? at h
  split at h
  · split at h
    · cases h
    · rename_i h1; simpa using h1
  · cases h
theorem flatLen {α : Type} {en : α → List Value} {sz : Nat} (hl : ∀ x, (en x).length = sz) (l : List α) : (l.flatMap en).length = l.length * sz := by
  induction l with
  | nil => simp
  | cons c t ih => rw [List.flatMap_cons, List.length_append, ih, hl, List.length_cons, Nat.add_mul, Nat.one_mul, Nat.add_comm]
/-- a slice whose elements are structs -/
theorem trod_list {α : Type} [Inhabited α] {en : α → List Value} {sz : Nat} {T e : TypeId} {Q : α → Prop} (hT : P.underlying T = some (.slice e)) (hsz : P.cellsOf e = sz) (hpos : 0 < sz) (hlen : ∀ x, (en x).length = sz)
    (hel : ∀ {fuel : Nat} {cs : List Value} {x : DataW A × List MemPlace}, DataW.trod enc P W base (fun _ => true) held fuel e cs = some x → ∃ c : α, cs = en c ∧ Q c)
    (h : DataW.trod enc P W base (fun _ => true) held fuel T cs = some x) : ∃ (s : Value) (l : List α), cs = [s] ∧ Sl (envOf W) [] sz s l.length (l.flatMap en) ∧ ∀ c ∈ l, Q c := by
  rcases Go.Deep.open_slice hT h with ⟨rfl, _⟩ | ⟨a, len, cap, m, n, D, Pl, rfl, hb, hl, hm, hmm, _, hx⟩
  · exact ⟨_, [], rfl, slNone' _ sz, by simp⟩
  · simp only [if_true] at hmm
    subst hmm
    have hc : ∀ i, i < m → ∃ c : α, (∀ j, j < sz → W.cell? (a.add (i * sz + j)) = (en c)[j]?) ∧ Q c := fun i hi => by
      obtain ⟨cs', h1, h2⟩ := hx i hi
      rw [hsz] at h1
      obtain ⟨_, _, h3⟩ := World.cells?_some h1
      obtain ⟨c, rfl, hin⟩ := hel h2
      refine ⟨c, fun j hj => ?_, hin⟩
      have := h3 j hj
      rwa [Go.Deep.add_add] at this
    have : ∃ f : Nat → α, ∀ i, i < m → (∀ j, j < sz → W.cell? (a.add (i * sz + j)) = (en (f i))[j]?) ∧ Q (f i) :=
      ⟨fun i => if h : i < m then Classical.choose (hc i h) else default, fun i hi => by dsimp only; rw [dif_pos hi]; exact Classical.choose_spec (hc i hi)⟩
    obtain ⟨f, hf⟩ := this
    refine ⟨_, (List.range len).map f, rfl, ?_, ?_⟩
    · have e1 : ((List.range len).map f).length = len := by simp
      rw [e1]
      intro w' s
      by_cases h0 : len = 0
      · subst h0
        exact ⟨by simp, by simp, .inl ⟨rfl, some a, m, rfl, hm⟩⟩
      · have hz0 : ∃ v, (en (f 0))[0]? = some v := by
          have := hlen (f 0)
          exact ⟨(en (f 0))[0]'(by omega), List.getElem?_eq_getElem (by omega)⟩
        obtain ⟨v00, hv00⟩ := hz0
        have h00 := (hf 0 (by omega)).1 0 hpos
        rw [hv00] at h00
        have hspot : a.spot = none := by
          have e : a.add (0 * sz + 0) = a := by simp [Addr.add]
          rw [e] at h00
          exact spotNone h00
        obtain ⟨b, off, spot⟩ := a
        dsimp only at hspot
        subst hspot
        refine ⟨by rw [flatLen hlen, e1], by omega, .inr ⟨m, rfl, hl, hm, fun j u hj => ?_⟩⟩
        have hjl : j < len * sz := by
          have := (List.getElem?_eq_some_iff.1 hj).1
          rw [flatLen hlen, e1] at this
          exact this
        have hq : j / sz < len := Nat.div_lt_of_lt_mul (by rw [Nat.mul_comm]; exact hjl)
        have hr : j % sz < sz := Nat.mod_lt _ hpos
        have hqr : j / sz * sz + j % sz = j := Nat.div_add_mod' j sz
        have hg := gf (enc := en) (sz := sz) hlen (xs := (List.range len).map f) (i := j / sz) (by simp; omega)
        have hi : ((List.range len).map f)[j / sz]! = f (j / sz) := by
          rw [getElem!_pos _ _ (by simp; omega)]; simp
        rw [hi] at hg
        have hu : (en (f (j / sz)))[j % sz]? = some u := by
          rw [← hg, List.getElem?_take_of_lt hr, List.getElem?_drop, hqr]; exact hj
        have h2 := (hf (j / sz) (by omega)).1 (j % sz) hr
        rw [hu, addr_add, hqr] at h2
        exact keepCell (E := envOf W) s h2
    · intro c hc'
      simp only [List.mem_map, List.mem_range] at hc'
      obtain ⟨i, hi, rfl⟩ := hc'
      exact (hf i (by omega)).2
end
end Go.Sx
end
section
/- Guesses: what an echo is; the cursor; giving up. -/
namespace Go.Proofs.Ytijjjdljdjnbaaa
set_option maxRecDepth 100000
set_option linter.unusedVariables false
set_option linter.unusedSimpArgs false
open Go.Sx

structure Gue where
  key : Int
  row : Int
  col : Int
  pt : Int
  deriving DecidableEq, Inhabited
def Gue.enc (g : Gue) : List Value := [.int .u64 g.key, .int .i64 g.row, .int .i64 g.col, .int .i32 g.pt]
structure Ech where
  seen : Stt
  gs : List Gue
  ar : Int
  ac : Int
  quiet : Bool
  typed : Int
  hits : Int
  misses : Int
def Ech.cells : Ech → Value → Value → List Value
  | ⟨⟨⟨r1, c1, _, o1, q1, v1⟩, t1, p1, n1, b1⟩, _, ar, ac, qt, ty, hi, mi⟩, s, g => [.bool true, .int .i64 r1, .int .i64 c1, s, .int .i64 o1, .int .i64 q1, .bool v1, .string t1, .string p1, .int .u64 n1, .int .u64 b1, g, .int .i64 ar, .int .i64 ac, .bool qt, .int .u64 ty, .int .i64 hi, .int .i64 mi]
def Ech.rest : Ech → Ech
  | ⟨⟨⟨r1, c1, l1, o1, q1, v1⟩, t1, p1, n1, b1⟩, _, _, _, qt, ty, hi, mi⟩ => ⟨⟨⟨r1, c1, l1, o1, q1, v1⟩, t1, p1, n1, b1⟩, [], o1, q1, qt, ty, hi, mi⟩
def Ech.giveUp : Ech → Ech
  | ⟨⟨⟨r1, c1, l1, o1, q1, v1⟩, t1, p1, n1, b1⟩, _, _, _, _, ty, hi, mi⟩ => ⟨⟨⟨r1, c1, l1, o1, q1, v1⟩, t1, p1, n1, b1⟩, [], o1, q1, true, ty, hi, mi⟩
theorem eis_ok (E : Env) (b : Nat) (e : Ech) (s g : Value) : Does Try.prog 95 #[.pointer (some ⟨b, 0, none⟩)] E [own b (e.cells s g) 156] fun r H' => r = .bool true ∧ H' = [own b (e.cells s g) 156] := by
  obtain ⟨⟨⟨r1, c1, l1, o1, q1, v1⟩, t1, p1, n1, b1⟩, gs, ar, ac, qt, ty, hi, mi⟩ := e
  refine Does.go (args := [.pointer (some ⟨b, 0, none⟩)]) _ _ Try.func95 rfl Try.ntmps95 rfl rfl ?_
  refine Body.seq ?_
  refine Body.region ?_
  refine Ops.u (Dtu.asg (lk rfl)) rfl ?_
  refine Ops.nil ?_
  refine Then.next ?_
  refine Body.seq ?_
  refine Body.region ?_
  refine Ops.u (Dtu.mv (lk rfl)) rfl ?_
  refine Ops.u (Dtu.neNil Try.underlying94 (lk rfl) (lk rfl)) rfl ?_
  refine Ops.u (Dtu.mv (lk rfl)) rfl ?_
  refine Ops.gu rfl rfl rfl (Dtu.mv (lk rfl)) rfl ?_
  refine Ops.gu rfl rfl rfl (Dtu.nilck (lk rfl)) rfl ?_
  refine Ops.gu rfl rfl rfl (Dtu.fld fa156_0 (lk rfl)) rfl ?_
  refine Ops.gd rfl rfl rfl (Det.ld Try.isAgg4 (lk rfl) (Rd.ow 0 rfl rfl)) rfl ?_
  refine Ops.u (Dtu.pickT (lk rfl) (lk rfl)) rfl ?_
  refine Ops.u (Dtu.asg (lk rfl)) rfl ?_
  refine Ops.nil ?_
  refine Then.next ?_
  refine Body.ret ?_
  exact ⟨.inr rfl, _, pk [0] rfl, rfl, rfl⟩
theorem ecursor_ok (E : Env) (b : Nat) (e : Ech) (s g : Value) : Does Try.prog 126 #[.pointer (some ⟨b, 0, none⟩)] E [own b (e.cells s g) 156] fun r H' => r = .agg #[.int .i64 e.seen.v.row, .int .i64 e.seen.v.col] ∧ H' = [own b (e.cells s g) 156] := by
  obtain ⟨⟨⟨r1, c1, l1, o1, q1, v1⟩, t1, p1, n1, b1⟩, gs, ar, ac, qt, ty, hi, mi⟩ := e
  refine Does.go (args := [.pointer (some ⟨b, 0, none⟩)]) _ _ Try.func126 rfl Try.ntmps126 rfl rfl ?_
  refine Body.seq ?_
  refine Body.region ?_
  refine Ops.s (Stp.alloc ty154 (fun b2 => ?_)) rfl
  refine Ops.nil ?_
  refine Then.next ?_
  refine Body.seq ?_
  refine Body.draw mixed ?_
  refine AB.u 0 rfl (by decide +kernel) (Dtu.mv (lk rfl)) rfl ?_
  refine AB.u 1 rfl (by decide +kernel) (Dtu.nilck (lk rfl)) rfl ?_
  refine AB.u 2 rfl (by decide +kernel) (Dtu.fld fa156_1 (lk rfl)) rfl ?_
  refine AB.u 3 rfl (by decide +kernel) (Dtu.fld fa77_0 (lk rfl)) rfl ?_
  refine AB.u 4 rfl (by decide +kernel) (Dtu.fld fa24_3 (lk rfl)) rfl ?_
  refine AB.d 5 rfl (by decide +kernel) rfl (Det.ld Try.isAgg3 (lk rfl) (Rd.ow 1 rfl rfl)) rfl ?_
  refine AB.u 6 rfl (by decide +kernel) (Dtu.mv (lk rfl)) rfl ?_
  refine AB.u 7 rfl (by decide +kernel) (Dtu.nilck (lk rfl)) rfl ?_
  refine AB.u 8 rfl (by decide +kernel) (Dtu.fld fa156_1 (lk rfl)) rfl ?_
  refine AB.u 9 rfl (by decide +kernel) (Dtu.fld fa77_0 (lk rfl)) rfl ?_
  refine AB.u 10 rfl (by decide +kernel) (Dtu.fld fa24_4 (lk rfl)) rfl ?_
  refine AB.d 11 rfl (by decide +kernel) rfl (Det.ld Try.isAgg3 (lk rfl) (Rd.ow 1 rfl rfl)) rfl ?_
  refine AB.u 12 rfl (by decide +kernel) (Dtu.build ty154 pl154 (lkp rfl) rfl rfl) rfl ?_
  refine AB.e 13 rfl (by decide +kernel) (by decide +kernel) (Stp.store 0 Try.sizeOf154 (lk rfl) (lk rfl) rfl rfl rfl rfl rfl rfl rfl ?_)
  refine AB.done (by decide +kernel) ?_
  refine Then.next ?_
  refine Body.ret ?_
  exact ⟨.inr rfl, _, Loads.agg Try.isAgg154 Try.sizeOf154 (Rds.ow (m := 2) 0 rfl rfl) rfl, _, pk [1] rfl, rfl, rfl⟩
theorem erest_ok (E : Env) (b : Nat) (e : Ech) (a : Option Addr) (m c : Nat) (p : Option Addr) (q k : Nat) : Does Try.prog 91 #[.pointer (some ⟨b, 0, none⟩)] E [own b (e.cells (.slice a m c) (.slice p q k)) 156] fun r H' => H' = [own b (e.rest.cells (.slice a m c) (.slice none 0 0)) 156] := by
  obtain ⟨⟨⟨r1, c1, l1, o1, q1, v1⟩, t1, p1, n1, b1⟩, gs, ar, ac, qt, ty, hi, mi⟩ := e
  refine Does.go (args := [.pointer (some ⟨b, 0, none⟩)]) _ _ Try.func91 rfl Try.ntmps91 rfl rfl ?_
  refine Body.region ?_
  refine Ops.u (Dtu.mv (lk rfl)) rfl ?_
  refine Ops.u (Dtu.mv (lk rfl)) rfl ?_
  refine Ops.u (Dtu.mv (lk rfl)) rfl ?_
  refine Ops.s (Stp.callOwn [0] rfl rfl Try.call126 (lks rfl) (fun E' le hat => ecursor_ok E' _ ⟨⟨⟨_, _, _, _, _, _⟩, _, _, _, _⟩, _, _, _, _, _, _, _⟩ _ _) ?_) rfl
  rintro _ _ ⟨rfl, rfl⟩
  refine Ops.u (Dtu.nilck (lk rfl)) rfl ?_
  refine Ops.u (Dtu.fld fa156_2 (lk rfl)) rfl ?_
  refine Ops.e (Stp.store 0 Try.sizeOf102 (lk rfl) (lk rfl) rfl rfl rfl rfl rfl rfl rfl ?_)
  refine Ops.u (Dtu.nilck (lk rfl)) rfl ?_
  refine Ops.u (Dtu.fld fa156_3 (lk rfl)) rfl ?_
  refine Ops.e (Stp.store 0 Try.sizeOf154 (lk rfl) (lk rfl) rfl rfl rfl rfl rfl rfl rfl ?_)
  refine Ops.nil ?_
  exact ⟨.inl rfl, _, pk [0] rfl, rfl⟩
theorem egiveUp_ok (E : Env) (b : Nat) (e : Ech) (a : Option Addr) (m c : Nat) (p : Option Addr) (q k : Nat) : Does Try.prog 98 #[.pointer (some ⟨b, 0, none⟩)] E [own b (e.cells (.slice a m c) (.slice p q k)) 156] fun r H' => H' = [own b (e.giveUp.cells (.slice a m c) (.slice none 0 0)) 156] := by
  obtain ⟨⟨⟨r1, c1, l1, o1, q1, v1⟩, t1, p1, n1, b1⟩, gs, ar, ac, qt, ty, hi, mi⟩ := e
  refine Does.go (args := [.pointer (some ⟨b, 0, none⟩)]) _ _ Try.func98 rfl Try.ntmps98 rfl rfl ?_
  refine Body.seq ?_
  refine Body.region ?_
  refine Ops.u (Dtu.mv (lk rfl)) rfl ?_
  refine Ops.s (Stp.callOwn [0] rfl rfl Try.call91 (lks rfl) (fun E' le hat => erest_ok E' _ ⟨⟨⟨_, _, _, _, _, _⟩, _, _, _, _⟩, _, _, _, _, _, _, _⟩ _ _ _ _ _ _) ?_) rfl
  rintro _ _ rfl
  refine Ops.nil ?_
  refine Then.next ?_
  refine Body.region ?_
  refine Ops.u (Dtu.mv (lk rfl)) rfl ?_
  refine Ops.u (Dtu.nilck (lk rfl)) rfl ?_
  refine Ops.u (Dtu.fld fa156_4 (lk rfl)) rfl ?_
  refine Ops.e (Stp.store 0 Try.sizeOf4 (lk rfl) (lk rfl) rfl rfl rfl rfl rfl rfl rfl ?_)
  refine Ops.nil ?_
  exact ⟨.inl rfl, _, pk [0] rfl, rfl⟩
/-- the place of a cell among all -/
def indexV (rows cols r c : Int) : Int := if r < 0 ∨ rows ≤ r ∨ c < 0 ∨ cols ≤ c then -1 else r * cols + c
theorem eindex_ok (E : Env) (R C : Int) (a : Option Addr) (m k : Nat) (o q : Int) (v : Bool) (r c : Int) (h : R ≤ 12 ∧ C ≤ 40) : Does Try.prog 102 #[.agg #[.int .i64 R, .int .i64 C, .slice a m k, .int .i64 o, .int .i64 q, .bool v], .int .i64 r, .int .i64 c] E [] fun x H' => x = .int .i64 (indexV R C r c) ∧ H' = [] := by
  obtain ⟨h1, h2⟩ := h
  refine Does.go (args := [.agg #[.int .i64 R, .int .i64 C, .slice a m k, .int .i64 o, .int .i64 q, .bool v], .int .i64 r, .int .i64 c]) _ _ Try.func102 rfl Try.ntmps102 rfl rfl ?_
  by_cases hc : r < 0 ∨ R ≤ r ∨ c < 0 ∨ C ≤ c
  · have hi : indexV R C r c = -1 := if_pos hc
    refine Body.seq ?_
    refine Body.region ?_
    refine Ops.s (Stp.box (lk rfl) rfl (fun b3 => ?_)) rfl
    refine Ops.u (Dtu.asg (lk rfl)) rfl ?_
    refine Ops.nil ?_
    refine Then.next ?_
    refine Body.seq ?_
    refine Body.seq ?_
    refine Body.region ?_
    refine Ops.u (Dtu.mv (lk rfl)) rfl ?_
    refine Ops.u (Dtu.lss (lk rfl) (lk rfl)) rfl ?_
    refine Ops.u (Dtu.mv (lk rfl)) rfl ?_
    refine Ops.decP 9 rfl (fun c9 => ?_) (fun c9 => ?_)
    · refine Ops.gn rfl rfl rfl rfl rfl ?_
      refine Ops.gn rfl rfl rfl rfl rfl ?_
      refine Ops.gn rfl rfl rfl rfl rfl ?_
      refine Ops.gn rfl rfl rfl rfl rfl ?_
      refine Ops.u (Dtu.pickT (lk rfl) (lk rfl)) rfl ?_
      refine Ops.u (Dtu.mv (lk rfl)) rfl ?_
      refine Ops.gn rfl rfl rfl rfl rfl ?_
      refine Ops.gn rfl rfl rfl rfl rfl ?_
      refine Ops.u (Dtu.pickT (lk rfl) (lk rfl)) rfl ?_
      refine Ops.u (Dtu.mv (lk rfl)) rfl ?_
      refine Ops.gn rfl rfl rfl rfl rfl ?_
      refine Ops.gn rfl rfl rfl rfl rfl ?_
      refine Ops.gn rfl rfl rfl rfl rfl ?_
      refine Ops.gn rfl rfl rfl rfl rfl ?_
      refine Ops.u (Dtu.pickT (lk rfl) (lk rfl)) rfl ?_
      refine Ops.nil ?_
      refine Then.next ?_
      refine Body.condT (lk rfl) ?_
      refine Body.seq ?_
      refine Body.region ?_
      refine Ops.u (Dtu.asg (lk rfl)) rfl ?_
      refine Ops.nil ?_
      refine Then.next ?_
      refine Body.ret ?_
      refine Then.ret ?_
      (exact ⟨.inr rfl, _, pk [] rfl, by first | (rw [hi]; rfl) | (exfalso; omega), rfl⟩)
    · refine Ops.gu rfl rfl rfl (Dtu.mv (lk rfl)) rfl ?_
      refine Ops.gu rfl rfl rfl (Dtu.fld fa24_0 (lk rfl)) rfl ?_
      refine Ops.gd rfl rfl rfl (Det.ld Try.isAgg3 (lk rfl) (Rd.ow 0 rfl rfl)) rfl ?_
      refine Ops.gu rfl rfl rfl (Dtu.geq (lk rfl) (lk rfl)) rfl ?_
      refine Ops.u (Dtu.pickF (lk rfl) (lk rfl)) rfl ?_
      refine Ops.u (Dtu.mv (lk rfl)) rfl ?_
      refine Ops.decP 15 rfl (fun c15 => ?_) (fun c15 => ?_)
      · refine Ops.gn rfl rfl rfl rfl rfl ?_
        refine Ops.gn rfl rfl rfl rfl rfl ?_
        refine Ops.u (Dtu.pickT (lk rfl) (lk rfl)) rfl ?_
        refine Ops.u (Dtu.mv (lk rfl)) rfl ?_
        refine Ops.gn rfl rfl rfl rfl rfl ?_
        refine Ops.gn rfl rfl rfl rfl rfl ?_
        refine Ops.gn rfl rfl rfl rfl rfl ?_
        refine Ops.gn rfl rfl rfl rfl rfl ?_
        refine Ops.u (Dtu.pickT (lk rfl) (lk rfl)) rfl ?_
        refine Ops.nil ?_
        refine Then.next ?_
        refine Body.condT (lk rfl) ?_
        refine Body.seq ?_
        refine Body.region ?_
        refine Ops.u (Dtu.asg (lk rfl)) rfl ?_
        refine Ops.nil ?_
        refine Then.next ?_
        refine Body.ret ?_
        refine Then.ret ?_
        (exact ⟨.inr rfl, _, pk [] rfl, by first | (rw [hi]; rfl) | (exfalso; omega), rfl⟩)
      · refine Ops.gu rfl rfl rfl (Dtu.mv (lk rfl)) rfl ?_
        refine Ops.gu rfl rfl rfl (Dtu.lss (lk rfl) (lk rfl)) rfl ?_
        refine Ops.u (Dtu.pickF (lk rfl) (lk rfl)) rfl ?_
        refine Ops.u (Dtu.mv (lk rfl)) rfl ?_
        refine Ops.decP 19 rfl (fun c19 => ?_) (fun c19 => ?_)
        · refine Ops.gn rfl rfl rfl rfl rfl ?_
          refine Ops.gn rfl rfl rfl rfl rfl ?_
          refine Ops.gn rfl rfl rfl rfl rfl ?_
          refine Ops.gn rfl rfl rfl rfl rfl ?_
          refine Ops.u (Dtu.pickT (lk rfl) (lk rfl)) rfl ?_
          refine Ops.nil ?_
          refine Then.next ?_
          refine Body.condT (lk rfl) ?_
          refine Body.seq ?_
          refine Body.region ?_
          refine Ops.u (Dtu.asg (lk rfl)) rfl ?_
          refine Ops.nil ?_
          refine Then.next ?_
          refine Body.ret ?_
          refine Then.ret ?_
          (exact ⟨.inr rfl, _, pk [] rfl, by first | (rw [hi]; rfl) | (exfalso; omega), rfl⟩)
        · refine Ops.gu rfl rfl rfl (Dtu.mv (lk rfl)) rfl ?_
          refine Ops.gu rfl rfl rfl (Dtu.fld fa24_1 (lk rfl)) rfl ?_
          refine Ops.gd rfl rfl rfl (Det.ld Try.isAgg3 (lk rfl) (Rd.ow 0 rfl rfl)) rfl ?_
          refine Ops.gu rfl rfl rfl (Dtu.geq (lk rfl) (lk rfl)) rfl ?_
          refine Ops.u (Dtu.pickF (lk rfl) (lk rfl)) rfl ?_
          refine Ops.nil ?_
          refine Then.next ?_
          refine Body.condP (lk rfl) (fun _ => ?_) (fun hn => absurd (by first | omega | assumption | decide) hn)
          refine Body.seq ?_
          refine Body.region ?_
          refine Ops.u (Dtu.asg (lk rfl)) rfl ?_
          refine Ops.nil ?_
          refine Then.next ?_
          refine Body.ret ?_
          refine Then.ret ?_
          (exact ⟨.inr rfl, _, pk [] rfl, by first | (rw [hi]; rfl) | (exfalso; omega), rfl⟩)
  · have hi : indexV R C r c = r * C + c := if_neg hc
    have hm : r * C ≤ 11 * 40 := Int.mul_le_mul (by omega) (by omega) (by omega) (by omega)
    have hm0 : 0 ≤ r * C := Int.mul_nonneg (by omega) (by omega)
    refine Body.seq ?_
    refine Body.region ?_
    refine Ops.s (Stp.box (lk rfl) rfl (fun b3 => ?_)) rfl
    refine Ops.u (Dtu.asg (lk rfl)) rfl ?_
    refine Ops.nil ?_
    refine Then.next ?_
    refine Body.seq ?_
    refine Body.seq ?_
    refine Body.region ?_
    refine Ops.u (Dtu.mv (lk rfl)) rfl ?_
    refine Ops.u (Dtu.lss (lk rfl) (lk rfl)) rfl ?_
    refine Ops.u (Dtu.mv (lk rfl)) rfl ?_
    refine Ops.decP 9 rfl (fun hy => absurd hy (by first | omega | assumption | decide)) (fun _ => ?_)
    refine Ops.gu rfl rfl rfl (Dtu.mv (lk rfl)) rfl ?_
    refine Ops.gu rfl rfl rfl (Dtu.fld fa24_0 (lk rfl)) rfl ?_
    refine Ops.gd rfl rfl rfl (Det.ld Try.isAgg3 (lk rfl) (Rd.ow 0 rfl rfl)) rfl ?_
    refine Ops.gu rfl rfl rfl (Dtu.geq (lk rfl) (lk rfl)) rfl ?_
    refine Ops.u (Dtu.pickF (lk rfl) (lk rfl)) rfl ?_
    refine Ops.u (Dtu.mv (lk rfl)) rfl ?_
    refine Ops.decP 15 rfl (fun hy => absurd hy (by first | omega | assumption | decide)) (fun _ => ?_)
    refine Ops.gu rfl rfl rfl (Dtu.mv (lk rfl)) rfl ?_
    refine Ops.gu rfl rfl rfl (Dtu.lss (lk rfl) (lk rfl)) rfl ?_
    refine Ops.u (Dtu.pickF (lk rfl) (lk rfl)) rfl ?_
    refine Ops.u (Dtu.mv (lk rfl)) rfl ?_
    refine Ops.decP 19 rfl (fun hy => absurd hy (by first | omega | assumption | decide)) (fun _ => ?_)
    refine Ops.gu rfl rfl rfl (Dtu.mv (lk rfl)) rfl ?_
    refine Ops.gu rfl rfl rfl (Dtu.fld fa24_1 (lk rfl)) rfl ?_
    refine Ops.gd rfl rfl rfl (Det.ld Try.isAgg3 (lk rfl) (Rd.ow 0 rfl rfl)) rfl ?_
    refine Ops.gu rfl rfl rfl (Dtu.geq (lk rfl) (lk rfl)) rfl ?_
    refine Ops.u (Dtu.pickF (lk rfl) (lk rfl)) rfl ?_
    refine Ops.nil ?_
    refine Then.next ?_
    refine Body.condP (lk rfl) (fun hy => absurd hy (by first | omega | assumption | decide)) (fun _ => ?_)
    refine Body.skip ?_
    refine Then.next ?_
    refine Body.seq ?_
    refine Body.region ?_
    refine Ops.u (Dtu.mv (lk rfl)) rfl ?_
    refine Ops.u (Dtu.fld fa24_1 (lk rfl)) rfl ?_
    refine Ops.d (Det.ld Try.isAgg3 (lk rfl) (Rd.ow 0 rfl rfl)) rfl ?_
    refine Ops.u (Dtu.mul (lk rfl) (lk rfl) (w64 (by omega) (by omega))) rfl ?_
    refine Ops.u (Dtu.mv (lk rfl)) rfl ?_
    refine Ops.u (Dtu.add (lk rfl) (lk rfl) (w64 (by omega) (by omega))) rfl ?_
    refine Ops.u (Dtu.asg (lk rfl)) rfl ?_
    refine Ops.nil ?_
    refine Then.next ?_
    refine Body.ret ?_
    exact ⟨.inr rfl, _, pk [] rfl, by rw [hi]; rfl, rfl⟩
end Go.Proofs.Ytijjjdljdjnbaaa
end
section
/- Guesses: what keys and states do, in plain words. -/
namespace Go.Proofs.Ytijjjdljdjnbaaa
set_option maxRecDepth 100000
set_option linter.unusedVariables false
set_option linter.unusedSimpArgs false
open Go.Sx

def Ech.print (e : Ech) (c : Int) : Ech := if e.seen.v.cols - 1 ≤ e.ac ∨ 64 ≤ e.gs.length then e.giveUp else ⟨e.seen, e.gs ++ [⟨e.typed, e.ar, e.ac, c⟩], e.ar, e.ac + 1, e.quiet, e.typed, e.hits, e.misses⟩
/-- the last guess, taken back -/
def Ech.cut (e : Ech) (g : Gue) : Ech := ⟨e.seen, e.gs.dropLast, g.row, g.col, e.quiet, e.typed, e.hits, e.misses⟩
def Ech.rub (e : Ech) : Ech :=
  if e.gs.length = 0 then e.giveUp
  else if ¬ (e.gs[e.gs.length - 1]!.row = e.ar ∧ e.gs[e.gs.length - 1]!.col + 1 = e.ac) then e.giveUp
  else if e.gs.length = 1 then (e.cut e.gs[e.gs.length - 1]!).rest else e.cut e.gs[e.gs.length - 1]!
def Ech.tick (e : Ech) : Ech := ⟨e.seen, e.gs, e.ar, e.ac, e.quiet, e.typed + 1, e.hits, e.misses⟩
def Ech.stroke (e : Ech) (c : Int) : Ech := if e.quiet = true then e else if 32 ≤ c ∧ c ≤ 126 then e.print c else if c = 8 ∨ c = 127 then e.rub else e.giveUp
def Ech.key (e : Ech) (c : Int) : Ech := (e.stroke c).tick
def Ech.type (e : Ech) (bs : List Int) : Ech := bs.foldl Ech.key e
def Ech.right (e : Ech) (g : Gue) : Bool := decide (0 ≤ indexV e.seen.v.rows e.seen.v.cols g.row g.col) && decide (e.seen.v.cells[(indexV e.seen.v.rows e.seen.v.cols g.row g.col).toNat]!.pt = g.pt)
/-- guesses that come true, and one that does not -/
def Ech.true1 (e : Ech) : Ech := ⟨e.seen, e.gs.drop 1, e.ar, e.ac, e.quiet, e.typed, e.hits + 1, e.misses⟩
def Ech.miss (e : Ech) : Ech := (Ech.mk e.seen e.gs e.ar e.ac e.quiet e.typed e.hits (e.misses + 1)).giveUp
def seeL (took : Int) : Nat → Ech → Ech
  | 0, e => e
  | k + 1, e => if 0 < e.gs.length ∧ e.gs[0]!.key < took then (if e.right e.gs[0]! = true then seeL took k e.true1 else e.miss) else e
def Ech.look (e : Ech) (s : Stt) : Ech := ⟨s, e.gs, e.ar, e.ac, e.quiet, e.typed, e.hits, e.misses⟩
def Ech.rest0 (e : Ech) : Ech := if e.gs.length = 0 then e.rest else e
def Ech.calm (e : Ech) (took : Int) : Ech := ⟨e.seen, e.gs, e.ar, e.ac, e.quiet && decide (took < e.typed), e.typed, e.hits, e.misses⟩
def Ech.see (e : Ech) (s : Stt) (took : Int) : Ech := ((seeL took e.gs.length (e.look s)).rest0).calm took
def under (c : Cell) (p : Int) : Cell := ⟨p, ibit .or .u8 c.fl 8, c.fg, c.bg⟩
def drawG (rows cols : Int) (cs : List Cell) (g : Gue) : List Cell := if 0 ≤ indexV rows cols g.row g.col then cs.set (indexV rows cols g.row g.col).toNat (under cs[(indexV rows cols g.row g.col).toNat]! g.pt) else cs
def Ech.show (e : Ech) : View :=
  ⟨e.seen.v.rows, e.seen.v.cols, e.gs.foldl (drawG e.seen.v.rows e.seen.v.cols) e.seen.v.cells,
    if 0 ≤ indexV e.seen.v.rows e.seen.v.cols e.ar e.ac then e.ar else e.seen.v.row, if 0 ≤ indexV e.seen.v.rows e.seen.v.cols e.ar e.ac then e.ac else e.seen.v.col, e.seen.v.vis⟩
def Ech.new : Ech := ⟨Stt.first, [], 0, 0, false, 0, 0, 0⟩

structure Gue.Ok (g : Gue) : Prop where
  r : 0 ≤ g.row ∧ g.row < 12
  c : 0 ≤ g.col ∧ g.col < 40
  p : 32 ≤ g.pt ∧ g.pt ≤ 126
structure Ech.Ok (e : Ech) (N : Int) : Prop where
  seen : e.seen.ok = true
  fl : ∀ c ∈ e.seen.v.cells, c.Fl
  cols : ∀ c ∈ e.seen.v.cells, c.Cols
  n : e.gs.length ≤ 64
  g : ∀ g ∈ e.gs, g.Ok
  ar : 0 ≤ e.ar ∧ e.ar < 12
  ac : 0 ≤ e.ac ∧ e.ac < 40
  ty : 0 ≤ e.typed ∧ e.typed ≤ N
  hi : 0 ≤ e.hits ∧ e.hits ≤ N
  mi : 0 ≤ e.misses ∧ e.misses ≤ N
section
variable {e : Ech} {N : Int}
theorem View.ok_of {v : View} (h : v.fits) (hc : ∀ c ∈ v.cells, c.ok = true) : v.ok = true := by
  simp only [View.ok, h, decide_true, Bool.true_and, List.all_eq_true]; exact hc
theorem Ech.Ok.fits (h : e.Ok N) : (1 ≤ e.seen.v.rows ∧ e.seen.v.rows ≤ 12 ∧ 1 ≤ e.seen.v.cols ∧ e.seen.v.cols ≤ 40) ∧ 0 ≤ e.seen.v.row ∧ e.seen.v.row < e.seen.v.rows ∧ 0 ≤ e.seen.v.col ∧ e.seen.v.col < e.seen.v.cols ∧ (e.seen.v.cells.length : Int) = e.seen.v.rows * e.seen.v.cols :=
  (View.ok_fits (Stt.ok_fits h.seen).1).1
theorem Ech.Ok.mono {M : Int} (h : e.Ok N) (le : N ≤ M) : e.Ok M :=
  ⟨h.seen, h.fl, h.cols, h.n, h.g, h.ar, h.ac, ⟨h.ty.1, Int.le_trans h.ty.2 le⟩, ⟨h.hi.1, Int.le_trans h.hi.2 le⟩, ⟨h.mi.1, Int.le_trans h.mi.2 le⟩⟩
theorem Ech.Ok.giveUp (h : e.Ok N) : e.giveUp.Ok N := by
  have hf := h.fits
  obtain ⟨⟨⟨r1, c1, l1, o1, q1, v1⟩, t1, p1, n1, b1⟩, gs, ar, ac, qt, ty, hi, mi⟩ := e
  dsimp only at hf
  exact ⟨h.seen, h.fl, h.cols, by simp [Ech.giveUp], by simp [Ech.giveUp], by dsimp only [Ech.giveUp]; omega, by dsimp only [Ech.giveUp]; omega, h.ty, h.hi, h.mi⟩
theorem Ech.Ok.rest (h : e.Ok N) : e.rest.Ok N := by
  have hf := h.fits
  obtain ⟨⟨⟨r1, c1, l1, o1, q1, v1⟩, t1, p1, n1, b1⟩, gs, ar, ac, qt, ty, hi, mi⟩ := e
  dsimp only at hf
  exact ⟨h.seen, h.fl, h.cols, by simp [Ech.rest], by simp [Ech.rest], by dsimp only [Ech.rest]; omega, by dsimp only [Ech.rest]; omega, h.ty, h.hi, h.mi⟩
theorem Ech.Ok.print (h : e.Ok N) {c : Int} (hc : 32 ≤ c ∧ c ≤ 126) : (e.print c).Ok N := by
  unfold Ech.print
  have hf := h.fits
  split
  · exact h.giveUp
  · rename_i hn
    refine ⟨h.seen, h.fl, h.cols, by simp; omega, fun g hg => ?_, h.ar, by have := h.ac; dsimp only; omega, h.ty, h.hi, h.mi⟩
    rcases List.mem_append.1 hg with hg | hg
    · exact h.g g hg
    · rw [List.mem_singleton.1 hg]
      exact ⟨h.ar, h.ac, hc⟩
theorem Ech.Ok.rub (h : e.Ok N) : e.rub.Ok N := by
  unfold Ech.rub
  split
  · exact h.giveUp
  · rename_i h1
    split
    · exact h.giveUp
    · have hg := h.g e.gs[e.gs.length - 1]! (by rw [getElem!_pos e.gs _ (by omega)]; exact List.getElem_mem _)
      have hc : ∀ (_ : e.gs.length ≠ 1), (e.cut e.gs[e.gs.length - 1]!).Ok N := fun hn =>
        ⟨h.seen, h.fl, h.cols, by have := h.n; simp [Ech.cut]; omega, fun g hg' => h.g g (List.dropLast_subset _ hg'), hg.r, hg.c, h.ty, h.hi, h.mi⟩
      split
      · have hr : (e.cut e.gs[e.gs.length - 1]!).rest = e.rest := rfl
        rw [hr]; exact h.rest
      · exact hc (by assumption)
theorem Ech.Ok.stroke (h : e.Ok N) (c : Int) : (e.stroke c).Ok N := by
  unfold Ech.stroke
  split
  · exact h
  · split
    · exact h.print (by assumption)
    · split
      · exact h.rub
      · exact h.giveUp
theorem Ech.Ok.key (h : e.Ok N) (c : Int) : (e.key c).Ok (N + 1) := by
  have h1 := h.stroke c
  exact ⟨h1.seen, h1.fl, h1.cols, h1.n, h1.g, h1.ar, h1.ac, ⟨by have := h1.ty; simp only [Ech.key, Ech.tick]; omega, by have := h1.ty; simp only [Ech.key, Ech.tick]; omega⟩, ⟨h1.hi.1, by have := h1.hi; simp only [Ech.key, Ech.tick]; omega⟩, ⟨h1.mi.1, by have := h1.mi; simp only [Ech.key, Ech.tick]; omega⟩⟩
theorem Ech.Ok.type : ∀ (bs : List Int) {e : Ech} {N : Int}, e.Ok N → (e.type bs).Ok (N + bs.length)
  | [], e, N, h => by simpa [Ech.type] using h
  | c :: bs, e, N, h => by
    have := Ech.Ok.type bs (h.key c)
    simp only [Ech.type, List.foldl_cons] at this ⊢
    rw [List.length_cons, show N + ((bs.length + 1 : Nat) : Int) = N + 1 + (bs.length : Int) by omega]
    exact this
theorem Ech.Ok.seeL (took : Int) : ∀ (k : Nat) {e : Ech} {N : Int}, e.Ok N → (seeL took k e).Ok (N + k)
  | 0, e, N, h => by simpa [Go.Proofs.Ytijjjdljdjnbaaa.seeL] using h
  | k + 1, e, N, h => by
    have hm : ∀ {x : Ech}, x.Ok (N + 1) → x.Ok (N + (k + 1 : Nat)) := fun hx => hx.mono (by omega)
    unfold Go.Proofs.Ytijjjdljdjnbaaa.seeL
    split
    · split
      · have h1 : e.true1.Ok (N + 1) := ⟨h.seen, h.fl, h.cols, by have := h.n; simp [Ech.true1]; omega, fun g hg => h.g g (List.mem_of_mem_drop hg), h.ar, h.ac, ⟨h.ty.1, by have := h.ty; simp only [Ech.true1]; omega⟩, ⟨by have := h.hi; simp only [Ech.true1]; omega, by have := h.hi; simp only [Ech.true1]; omega⟩, ⟨h.mi.1, by have := h.mi; simp only [Ech.true1]; omega⟩⟩
        have := Ech.Ok.seeL took k h1
        rwa [show N + 1 + (k : Int) = N + ((k + 1 : Nat) : Int) by omega] at this
      · have h1 : (Ech.mk e.seen e.gs e.ar e.ac e.quiet e.typed e.hits (e.misses + 1)).Ok (N + 1) := ⟨h.seen, h.fl, h.cols, h.n, h.g, h.ar, h.ac, ⟨h.ty.1, by have := h.ty; dsimp only; omega⟩, ⟨h.hi.1, by have := h.hi; dsimp only; omega⟩, ⟨by have := h.mi; dsimp only; omega, by have := h.mi; dsimp only; omega⟩⟩
        exact hm h1.giveUp
    · exact h.mono (by omega)
theorem Ech.Ok.look (h : e.Ok N) {s : Stt} (ks : s.ok = true) (fs : ∀ c ∈ s.v.cells, c.Fl) (cs : ∀ c ∈ s.v.cells, c.Cols) : (e.look s).Ok N := ⟨ks, fs, cs, h.n, h.g, h.ar, h.ac, h.ty, h.hi, h.mi⟩
theorem Ech.Ok.rest0 (h : e.Ok N) : e.rest0.Ok N := by unfold Ech.rest0; split <;> first | exact h.rest | exact h
theorem Ech.Ok.calm (h : e.Ok N) (took : Int) : (e.calm took).Ok N := ⟨h.seen, h.fl, h.cols, h.n, h.g, h.ar, h.ac, h.ty, h.hi, h.mi⟩
theorem Ech.Ok.see (h : e.Ok N) {s : Stt} (took : Int) (ks : s.ok = true) (fs : ∀ c ∈ s.v.cells, c.Fl) (cs : ∀ c ∈ s.v.cells, c.Cols) : (e.see s took).Ok (N + 64) :=
  (((Ech.Ok.seeL took e.gs.length (h.look ks fs cs)).rest0).calm took).mono (by have := h.n; omega)
/-- where there is no guess, the next key is at the cursor -/
def Ech.Z (e : Ech) : Prop := e.gs = [] → e.ar = e.seen.v.row ∧ e.ac = e.seen.v.col
theorem Ech.Z.giveUp : e.giveUp.Z := fun _ => ⟨rfl, rfl⟩
theorem Ech.Z.rest : e.rest.Z := fun _ => ⟨rfl, rfl⟩
theorem Ech.Z.stroke (h : e.Z) (c : Int) : (e.stroke c).Z := by
  unfold Ech.stroke
  split
  · exact h
  · split
    · unfold Ech.print
      split
      · exact Ech.Z.giveUp
      · intro hz; simp at hz
    · split
      · unfold Ech.rub
        split
        · exact Ech.Z.giveUp
        · split
          · exact Ech.Z.giveUp
          · split
            · exact Ech.Z.rest
            · intro hz
              have := congrArg List.length hz
              simp [Ech.cut] at this; omega
      · exact Ech.Z.giveUp
theorem Ech.Z.key (h : e.Z) (c : Int) : (e.key c).Z := h.stroke c
theorem Ech.Z.type : ∀ (bs : List Int) {e : Ech}, e.Z → (e.type bs).Z
  | [], e, h => h
  | c :: bs, e, h => Ech.Z.type bs (h.key c)
theorem Ech.Z.see (s : Stt) (took : Int) : (e.see s took).Z := by
  unfold Ech.see Ech.rest0
  split
  · intro _; exact ⟨rfl, rfl⟩
  · rename_i h
    intro hz
    have : (Go.Proofs.Ytijjjdljdjnbaaa.seeL took e.gs.length (e.look s)).gs = [] := hz
    rw [this] at h; simp at h
theorem seeL_seen {took : Int} : ∀ (k : Nat) (e : Ech), (seeL took k e).seen = e.seen
  | 0, e => rfl
  | k + 1, e => by
    unfold seeL
    split
    · split
      · exact seeL_seen k e.true1
      · rfl
    · rfl
theorem see_seen (s : Stt) (took : Int) : (e.see s took).seen = s := by
  have : (seeL took e.gs.length (e.look s)).seen = s := seeL_seen _ _
  unfold Ech.see Ech.rest0
  split
  · exact this
  · exact this
theorem stroke_seen (c : Int) : (e.stroke c).seen = e.seen := by
  unfold Ech.stroke Ech.print Ech.rub
  (repeat' split) <;> rfl
theorem type_seen : ∀ (bs : List Int) (e : Ech), (e.type bs).seen = e.seen
  | [], e => rfl
  | c :: bs, e => by
    have h1 := type_seen bs (e.key c)
    have h2 : (e.key c).seen = e.seen := stroke_seen c
    rw [h2] at h1; exact h1
theorem show_none (h : e.Ok N) (hz : e.Z) (hg : e.gs = []) : e.show = e.seen.v := by
  have hf := h.fits
  obtain ⟨h1, h2⟩ := hz hg
  have hi : 0 ≤ indexV e.seen.v.rows e.seen.v.cols e.ar e.ac := by
    unfold indexV
    rw [if_neg (by omega)]
    have := Int.mul_nonneg (show 0 ≤ e.ar by omega) (show 0 ≤ e.seen.v.cols by omega)
    omega
  unfold Ech.show
  rw [if_pos hi, if_pos hi, hg, h1, h2]
  rfl
theorem indexV_in {R C r c : Int} (h : 0 ≤ indexV R C r c) : 0 ≤ r ∧ r < R ∧ 0 ≤ c ∧ c < C ∧ indexV R C r c = r * C + c := by
  unfold indexV at h ⊢
  split at h
  · omega
  · rename_i h1; rw [if_neg h1]; omega
theorem indexV_lt {R C r c : Int} (h : 0 ≤ indexV R C r c) : indexV R C r c < R * C := by
  obtain ⟨h1, h2, h3, h4, h5⟩ := indexV_in h
  rw [h5]
  have : (r + 1) * C ≤ R * C := Int.mul_le_mul_of_nonneg_right (by omega) (by omega)
  rw [Int.add_mul, Int.one_mul] at this
  omega
theorem or8_u8 {a : Int} (h0 : 0 ≤ a) (h1 : a < 256) : 0 ≤ ibit .or .u8 a 8 ∧ ibit .or .u8 a 8 < 256 := by
  unfold ibit
  simp only [IntKind.wrap, IntKind.bits, IntKind.signed]
  simp
  omega
theorem isPt_ascii {p : Int} (h : 32 ≤ p ∧ p ≤ 126) : isPt p = true := by unfold isPt; exact decide_eq_true (by omega)
theorem drawG_len {R C : Int} {cs : List Cell} {g : Gue} : (drawG R C cs g).length = cs.length := by unfold drawG; split <;> simp
theorem drawG_mem {R C : Int} {cs : List Cell} {g : Gue} {c : Cell} (hl : (cs.length : Int) = R * C) (h : c ∈ drawG R C cs g) : c ∈ cs ∨ ∃ d ∈ cs, c = under d g.pt := by
  unfold drawG at h
  split at h
  · rename_i hi
    have := indexV_lt hi
    rcases List.mem_or_eq_of_mem_set h with h | h
    · exact .inl h
    · exact .inr ⟨_, by rw [getElem!_pos cs _ (by omega)]; exact List.getElem_mem _, h⟩
  · exact .inl h
theorem draw_all {R C : Int} : ∀ (gs : List Gue) {cs : List Cell}, (∀ g ∈ gs, g.Ok) → (cs.length : Int) = R * C → (∀ c ∈ cs, c.ok = true ∧ c.Fl ∧ c.Cols) → (∀ c ∈ gs.foldl (drawG R C) cs, c.ok = true ∧ c.Fl ∧ c.Cols) ∧ (gs.foldl (drawG R C) cs).length = cs.length
  | [], cs, _, _, h => ⟨h, rfl⟩
  | g :: gs, cs, hg, hl, h => by
    have hl2 : ((drawG R C cs g).length : Int) = R * C := by rw [drawG_len]; exact hl
    have := draw_all gs (cs := drawG R C cs g) (fun x hx => hg x (by simp [hx])) hl2 fun c hc => by
      rcases drawG_mem hl hc with hc | ⟨d, hd, rfl⟩
      · exact h c hc
      · obtain ⟨k1, k2, k3⟩ := h d hd
        refine ⟨?_, or8_u8 k2.1 k2.2, k3⟩
        have k4 := isPt_ascii (hg g (by simp)).p
        simp only [Cell.ok, okCell, under, Bool.and_eq_true] at k1 ⊢
        exact ⟨k4, k1.2⟩
    simp only [List.foldl_cons]
    rw [drawG_len] at this
    exact this
theorem show_all (h : e.Ok N) : e.show.ok = true ∧ (∀ c ∈ e.show.cells, c.Fl) ∧ (∀ c ∈ e.show.cells, c.Cols) ∧ e.show.cells.length = e.seen.v.cells.length := by
  have hf := h.fits
  have hk := (View.ok_fits (Stt.ok_fits h.seen).1).2
  obtain ⟨d1, d2⟩ := draw_all (R := e.seen.v.rows) (C := e.seen.v.cols) e.gs h.g hf.2.2.2.2.2 (fun c hc => ⟨hk c hc, h.fl c hc, h.cols c hc⟩)
  refine ⟨?_, fun c hc => (d1 c hc).2.1, fun c hc => (d1 c hc).2.2, d2⟩
  refine View.ok_of ⟨⟨hf.1.1, hf.1.2.1, hf.1.2.2.1, hf.1.2.2.2⟩, ?_⟩ fun c hc => (d1 c hc).1
  simp only [Ech.show]
  rw [d2]
  by_cases hi : 0 ≤ indexV e.seen.v.rows e.seen.v.cols e.ar e.ac
  · rw [if_pos hi, if_pos hi]
    have := indexV_in hi
    omega
  · rw [if_neg hi, if_neg hi]
    omega
end
end Go.Proofs.Ytijjjdljdjnbaaa
end
section
/- Guesses: a key that prints; the last guess taken back. -/
namespace Go.Proofs.Ytijjjdljdjnbaaa
set_option maxRecDepth 100000
set_option linter.unusedVariables false
set_option linter.unusedSimpArgs false
open Go.Sx

theorem eq154 (a b c d : Int) : EqAgg Try.prog 154 [.int .i64 a, .int .i64 b] [.int .i64 c, .int .i64 d] ((a == c) && ((b == d) && true)) :=
  EqAgg.mk fun k => EqD.struct Try.underlying154 (by kernel_rfl) (FE.cons rfl (part_v Try.isAgg3 rfl) (part_v Try.isAgg3 rfl) (EqD.int Try.underlying3)
    (FE.cons rfl (part_v Try.isAgg3 rfl) (part_v Try.isAgg3 rfl) (EqD.int Try.underlying3) FE.nil))
theorem eqGuard154 : Try.prog.eqGuardType Try.prog.depth 154 = false := by kernel_rfl
theorem gue_one (g : Gue) : (g.enc).all (·.oneCell') = true := rfl
/-- what an echo owns -/
abbrev EOwn (b : Nat) (e : Ech) (s : Value) (p : Option Addr) (q k : Nat) : List HProp := [own b (e.cells s (.slice p q k)) 156, vsl 4 (.slice p q k) e.gs.length (e.gs.flatMap Gue.enc)]
theorem eprint_ok (E : Env) (b : Nat) (e : Ech) (N : Int) (h : e.Ok N) (hN : N ≤ 1000000) (a : Option Addr) (m c : Nat) (p : Option Addr) (q k : Nat) (ch : Int) (hch : 0 ≤ ch ∧ ch < 256) : Does Try.prog 96 #[.pointer (some ⟨b, 0, none⟩), .int .u8 ch] E (EOwn b e (.slice a m c) p q k) fun r H' => ∃ (p' : Option Addr) (q' k' : Nat), H' = EOwn b (e.print ch) (.slice a m c) p' q' k' := by
  have hf := h.fits
  have hac := h.ac
  have hn := h.n
  refine Does.pure (Sl.lit (Sl.vsl 1 rfl)) fun hq => ?_
  obtain ⟨rfl, hk1, hk2⟩ := hq
  obtain ⟨⟨⟨r1, c1, l1, o1, q1, v1⟩, t1, p1, n1, b1⟩, gs, ar, ac, qt, ty, hi, mi⟩ := e
  dsimp only [EOwn] at hf hac hn hk1 ⊢
  refine Does.go (args := [.pointer (some ⟨b, 0, none⟩), .int .u8 ch]) _ _ Try.func96 rfl Try.ntmps96 rfl rfl ?_
  unfold Ech.print
  by_cases h1 : c1 - 1 ≤ ac
  · rw [if_pos (.inl h1)]
    refine Body.seq ?_
    refine Body.seq ?_
    refine Body.draw mixed ?_
    refine AB.u 0 rfl (by decide +kernel) (Dtu.mv (lk rfl)) rfl ?_
    refine AB.u 1 rfl (by decide +kernel) (Dtu.nilck (lk rfl)) rfl ?_
    refine AB.u 2 rfl (by decide +kernel) (Dtu.fld fa156_3 (lk rfl)) rfl ?_
    refine AB.u 3 rfl (by decide +kernel) (Dtu.fld fa154_1 (lk rfl)) rfl ?_
    refine AB.d 4 rfl (by decide +kernel) rfl (Det.ld Try.isAgg3 (lk rfl) (Rd.ow 0 rfl rfl)) rfl ?_
    refine AB.u 5 rfl (by decide +kernel) (Dtu.mv (lk rfl)) rfl ?_
    refine AB.u 6 rfl (by decide +kernel) (Dtu.nilck (lk rfl)) rfl ?_
    refine AB.u 7 rfl (by decide +kernel) (Dtu.fld fa156_1 (lk rfl)) rfl ?_
    refine AB.u 8 rfl (by decide +kernel) (Dtu.fld fa77_0 (lk rfl)) rfl ?_
    refine AB.u 9 rfl (by decide +kernel) (Dtu.fld fa24_1 (lk rfl)) rfl ?_
    refine AB.d 10 rfl (by decide +kernel) rfl (Det.ld Try.isAgg3 (lk rfl) (Rd.ow 0 rfl rfl)) rfl ?_
    refine AB.u 11 rfl (by decide +kernel) (Dtu.sub (lk rfl) (lk rfl) (w64 (by omega) (by omega))) rfl ?_
    refine AB.u 12 rfl (by decide +kernel) (Dtu.geq (lk rfl) (lk rfl)) rfl ?_
    refine AB.u 13 rfl (by decide +kernel) (Dtu.mv (lk rfl)) rfl ?_
    refine AB.decP 18 rfl (fun _ => ?_) (fun hn => absurd (by first | omega | assumption | decide) hn)
    refine AB.gn 14 rfl (by decide +kernel) rfl rfl rfl rfl rfl ?_
    refine AB.gn 15 rfl (by decide +kernel) rfl rfl rfl rfl rfl ?_
    refine AB.gn 16 rfl (by decide +kernel) rfl rfl rfl rfl rfl ?_
    refine AB.gn 17 rfl (by decide +kernel) rfl rfl rfl rfl rfl ?_
    refine AB.gn 18 rfl (by decide +kernel) rfl rfl rfl rfl rfl ?_
    refine AB.gn 19 rfl (by decide +kernel) rfl rfl rfl rfl rfl ?_
    refine AB.u 20 rfl (by decide +kernel) (Dtu.pickT (lk rfl) (lk rfl)) rfl ?_
    refine AB.done (by decide +kernel) ?_
    refine Then.next ?_
    refine Body.condT (lk rfl) ?_
    refine Body.seq ?_
    refine Body.region ?_
    refine Ops.u (Dtu.mv (lk rfl)) rfl ?_
    refine Ops.s (Stp.callOwn [0] rfl rfl Try.call98 (lks rfl) (fun E' le hat => egiveUp_ok E' _ ⟨⟨⟨_, _, _, _, _, _⟩, _, _, _, _⟩, _, _, _, _, _, _, _⟩ _ _ _ _ _ _) ?_) rfl
    rintro _ _ rfl
    refine Ops.nil ?_
    refine Then.next ?_
    refine Body.ret ?_
    refine Then.ret ?_
    exact ⟨.inr rfl, _, pkN [0] 4 rfl, none, 0, 0, rfl⟩
  · by_cases h2 : 64 ≤ gs.length
    · rw [if_pos (.inr h2)]
      refine Body.seq ?_
      refine Body.seq ?_
      refine Body.draw mixed ?_
      refine AB.u 0 rfl (by decide +kernel) (Dtu.mv (lk rfl)) rfl ?_
      refine AB.u 1 rfl (by decide +kernel) (Dtu.nilck (lk rfl)) rfl ?_
      refine AB.u 2 rfl (by decide +kernel) (Dtu.fld fa156_3 (lk rfl)) rfl ?_
      refine AB.u 3 rfl (by decide +kernel) (Dtu.fld fa154_1 (lk rfl)) rfl ?_
      refine AB.d 4 rfl (by decide +kernel) rfl (Det.ld Try.isAgg3 (lk rfl) (Rd.ow 0 rfl rfl)) rfl ?_
      refine AB.u 5 rfl (by decide +kernel) (Dtu.mv (lk rfl)) rfl ?_
      refine AB.u 6 rfl (by decide +kernel) (Dtu.nilck (lk rfl)) rfl ?_
      refine AB.u 7 rfl (by decide +kernel) (Dtu.fld fa156_1 (lk rfl)) rfl ?_
      refine AB.u 8 rfl (by decide +kernel) (Dtu.fld fa77_0 (lk rfl)) rfl ?_
      refine AB.u 9 rfl (by decide +kernel) (Dtu.fld fa24_1 (lk rfl)) rfl ?_
      refine AB.d 10 rfl (by decide +kernel) rfl (Det.ld Try.isAgg3 (lk rfl) (Rd.ow 0 rfl rfl)) rfl ?_
      refine AB.u 11 rfl (by decide +kernel) (Dtu.sub (lk rfl) (lk rfl) (w64 (by omega) (by omega))) rfl ?_
      refine AB.u 12 rfl (by decide +kernel) (Dtu.geq (lk rfl) (lk rfl)) rfl ?_
      refine AB.u 13 rfl (by decide +kernel) (Dtu.mv (lk rfl)) rfl ?_
      refine AB.decP 18 rfl (fun hy => absurd hy (by first | omega | assumption | decide)) (fun _ => ?_)
      refine AB.gu 14 rfl (by decide +kernel) rfl rfl rfl (Dtu.mv (lk rfl)) rfl ?_
      refine AB.gu 15 rfl (by decide +kernel) rfl rfl rfl (Dtu.nilck (lk rfl)) rfl ?_
      refine AB.gu 16 rfl (by decide +kernel) rfl rfl rfl (Dtu.fld fa156_2 (lk rfl)) rfl ?_
      refine AB.gd 17 rfl (by decide +kernel) rfl rfl rfl rfl (Det.ld Try.isAgg102 (lk rfl) (Rd.ow 0 rfl rfl)) rfl ?_
      refine AB.gu 18 rfl (by decide +kernel) rfl rfl rfl (Dtu.lenS Try.underlying102 (Sl.vsl 1 rfl) (lk rfl)) rfl ?_
      refine AB.gu 19 rfl (by decide +kernel) rfl rfl rfl (Dtu.geq (lk rfl) (lk rfl)) rfl ?_
      refine AB.u 20 rfl (by decide +kernel) (Dtu.pickF (lk rfl) (lk rfl)) rfl ?_
      refine AB.done (by decide +kernel) ?_
      refine Then.next ?_
      refine Body.condP (lk rfl) (fun _ => ?_) (fun hn => absurd (by first | omega | assumption | decide) hn)
      refine Body.seq ?_
      refine Body.region ?_
      refine Ops.u (Dtu.mv (lk rfl)) rfl ?_
      refine Ops.s (Stp.callOwn [0] rfl rfl Try.call98 (lks rfl) (fun E' le hat => egiveUp_ok E' _ ⟨⟨⟨_, _, _, _, _, _⟩, _, _, _, _⟩, _, _, _, _, _, _, _⟩ _ _ _ _ _ _) ?_) rfl
      rintro _ _ rfl
      refine Ops.nil ?_
      refine Then.next ?_
      refine Body.ret ?_
      refine Then.ret ?_
      exact ⟨.inr rfl, _, pkN [0] 4 rfl, none, 0, 0, rfl⟩
    · rw [if_neg (by simp only; omega)]
      refine Body.seq ?_
      refine Body.seq ?_
      refine Body.draw mixed ?_
      refine AB.u 0 rfl (by decide +kernel) (Dtu.mv (lk rfl)) rfl ?_
      refine AB.u 1 rfl (by decide +kernel) (Dtu.nilck (lk rfl)) rfl ?_
      refine AB.u 2 rfl (by decide +kernel) (Dtu.fld fa156_3 (lk rfl)) rfl ?_
      refine AB.u 3 rfl (by decide +kernel) (Dtu.fld fa154_1 (lk rfl)) rfl ?_
      refine AB.d 4 rfl (by decide +kernel) rfl (Det.ld Try.isAgg3 (lk rfl) (Rd.ow 0 rfl rfl)) rfl ?_
      refine AB.u 5 rfl (by decide +kernel) (Dtu.mv (lk rfl)) rfl ?_
      refine AB.u 6 rfl (by decide +kernel) (Dtu.nilck (lk rfl)) rfl ?_
      refine AB.u 7 rfl (by decide +kernel) (Dtu.fld fa156_1 (lk rfl)) rfl ?_
      refine AB.u 8 rfl (by decide +kernel) (Dtu.fld fa77_0 (lk rfl)) rfl ?_
      refine AB.u 9 rfl (by decide +kernel) (Dtu.fld fa24_1 (lk rfl)) rfl ?_
      refine AB.d 10 rfl (by decide +kernel) rfl (Det.ld Try.isAgg3 (lk rfl) (Rd.ow 0 rfl rfl)) rfl ?_
      refine AB.u 11 rfl (by decide +kernel) (Dtu.sub (lk rfl) (lk rfl) (w64 (by omega) (by omega))) rfl ?_
      refine AB.u 12 rfl (by decide +kernel) (Dtu.geq (lk rfl) (lk rfl)) rfl ?_
      refine AB.u 13 rfl (by decide +kernel) (Dtu.mv (lk rfl)) rfl ?_
      refine AB.decP 18 rfl (fun hy => absurd hy (by first | omega | assumption | decide)) (fun _ => ?_)
      refine AB.gu 14 rfl (by decide +kernel) rfl rfl rfl (Dtu.mv (lk rfl)) rfl ?_
      refine AB.gu 15 rfl (by decide +kernel) rfl rfl rfl (Dtu.nilck (lk rfl)) rfl ?_
      refine AB.gu 16 rfl (by decide +kernel) rfl rfl rfl (Dtu.fld fa156_2 (lk rfl)) rfl ?_
      refine AB.gd 17 rfl (by decide +kernel) rfl rfl rfl rfl (Det.ld Try.isAgg102 (lk rfl) (Rd.ow 0 rfl rfl)) rfl ?_
      refine AB.gu 18 rfl (by decide +kernel) rfl rfl rfl (Dtu.lenS Try.underlying102 (Sl.vsl 1 rfl) (lk rfl)) rfl ?_
      refine AB.gu 19 rfl (by decide +kernel) rfl rfl rfl (Dtu.geq (lk rfl) (lk rfl)) rfl ?_
      refine AB.u 20 rfl (by decide +kernel) (Dtu.pickF (lk rfl) (lk rfl)) rfl ?_
      refine AB.done (by decide +kernel) ?_
      refine Then.next ?_
      refine Body.condP (lk rfl) (fun hy => absurd hy (by first | omega | assumption | decide)) (fun _ => ?_)
      refine Body.skip ?_
      refine Then.next ?_
      refine Body.seq ?_
      refine Body.draw mixed ?_
      refine AB.u 0 rfl (by decide +kernel) (Dtu.mv (lk rfl)) rfl ?_
      refine AB.u 1 rfl (by decide +kernel) (Dtu.nilck (lk rfl)) rfl ?_
      refine AB.u 2 rfl (by decide +kernel) (Dtu.fld fa156_5 (lk rfl)) rfl ?_
      refine AB.d 3 rfl (by decide +kernel) rfl (Det.ld Try.isAgg75 (lk rfl) (Rd.ow 0 rfl rfl)) rfl ?_
      refine AB.u 4 rfl (by decide +kernel) (Dtu.mv (lk rfl)) rfl ?_
      refine AB.u 5 rfl (by decide +kernel) (Dtu.nilck (lk rfl)) rfl ?_
      refine AB.u 6 rfl (by decide +kernel) (Dtu.fld fa156_3 (lk rfl)) rfl ?_
      refine AB.u 7 rfl (by decide +kernel) (Dtu.fld fa154_0 (lk rfl)) rfl ?_
      refine AB.d 8 rfl (by decide +kernel) rfl (Det.ld Try.isAgg3 (lk rfl) (Rd.ow 0 rfl rfl)) rfl ?_
      refine AB.u 9 rfl (by decide +kernel) (Dtu.mv (lk rfl)) rfl ?_
      refine AB.u 10 rfl (by decide +kernel) (Dtu.nilck (lk rfl)) rfl ?_
      refine AB.u 11 rfl (by decide +kernel) (Dtu.fld fa156_3 (lk rfl)) rfl ?_
      refine AB.u 12 rfl (by decide +kernel) (Dtu.fld fa154_1 (lk rfl)) rfl ?_
      refine AB.d 13 rfl (by decide +kernel) rfl (Det.ld Try.isAgg3 (lk rfl) (Rd.ow 0 rfl rfl)) rfl ?_
      refine AB.u 14 rfl (by decide +kernel) (Dtu.mv (lk rfl)) rfl ?_
      refine AB.u 15 rfl (by decide +kernel) (Dtu.cvt Try.underlying5 Try.underlying21 (lk rfl) (w32 (by omega) (by omega))) rfl ?_
      refine AB.u 16 rfl (by decide +kernel) (Dtu.build ty162 pl162 (lkp rfl) rfl rfl) rfl ?_
      refine AB.s 17 rfl (by decide +kernel) (by decide +kernel) (Stp.alloc ty162 (fun b4 => ?_)) rfl
      refine AB.e 18 rfl (by decide +kernel) (by decide +kernel) (Stp.store 0 Try.sizeOf162 (lk rfl) (lk rfl) rfl rfl rfl rfl rfl rfl rfl ?_)
      refine AB.done (by decide +kernel) ?_
      refine Then.next ?_
      refine Body.seq ?_
      refine Body.draw mixed ?_
      refine AB.u 0 rfl (by decide +kernel) (Dtu.mv (lk rfl)) rfl ?_
      refine AB.u 1 rfl (by decide +kernel) (Dtu.mv (lk rfl)) rfl ?_
      refine AB.u 2 rfl (by decide +kernel) (Dtu.nilck (lk rfl)) rfl ?_
      refine AB.u 3 rfl (by decide +kernel) (Dtu.fld fa156_2 (lk rfl)) rfl ?_
      refine AB.d 4 rfl (by decide +kernel) rfl (Det.ld Try.isAgg102 (lk rfl) (Rd.ow 1 rfl rfl)) rfl ?_
      refine AB.u 5 rfl (by decide +kernel) (Dtu.mv (lk rfl)) rfl ?_
      refine AB.u 6 rfl (by decide +kernel) (Dtu.nilck (lk rfl)) rfl ?_
      refine AB.u 7 rfl (by decide +kernel) (Dtu.fld fa156_2 (lk rfl)) rfl ?_
      refine AB.d 8 rfl (by decide +kernel) rfl (Det.ld Try.isAgg102 (lk rfl) (Rd.ow 1 rfl rfl)) rfl ?_
      refine AB.u 9 rfl (by decide +kernel) (Dtu.lenS Try.underlying102 (Sl.vsl 2 rfl) (lk rfl)) rfl ?_
      refine AB.u 10 rfl (by decide +kernel) (Dtu.mv (lk rfl)) rfl ?_
      refine AB.u 11 rfl (by decide +kernel) (Dtu.nilck (lk rfl)) rfl ?_
      refine AB.u 12 rfl (by decide +kernel) (Dtu.fld fa156_2 (lk rfl)) rfl ?_
      refine AB.d 13 rfl (by decide +kernel) rfl (Det.ld Try.isAgg102 (lk rfl) (Rd.ow 1 rfl rfl)) rfl ?_
      refine AB.u 14 rfl (by decide +kernel) (Dtu.lenS Try.underlying102 (Sl.vsl 2 rfl) (lk rfl)) rfl ?_
      refine AB.u 15 rfl (by decide +kernel) (Dtu.slHM (gs.length) (gs.length) Try.underlying102 Try.sizeOf162 (Sl.vsl 2 rfl) (lk rfl) (lk rfl) (lk rfl) (by omega) (by omega) (by omega) (by omega)) rfl ?_
      refine AB.d 16 rfl (by decide +kernel) rfl (Det.lda Try.isAgg162 Try.sizeOf162 (lk rfl) (Rds.ow (m := 4) 0 rfl rfl) rfl) rfl ?_
      refine AB.s 17 rfl (by decide +kernel) (by decide +kernel) (Stp.buildSliceO Try.underlying102 ty162 (by decide) (by decide) (lkp rfl) rfl rfl rfl (by decide) (fun v62 => ?_)) rfl
      refine AB.s 18 rfl (by decide +kernel) (by decide +kernel) (Stp.appendFull Try.underlying102 ty162 rfl (lk rfl) (lk rfl) (Sl.sub (Sl.vsl 3 rfl) 0 gs.length gs.length (Nat.zero_le _) (Nat.le_refl _) (Nat.le_refl _) (show gs.length ≤ capOf (.slice p gs.length k) from hk1) (by rw [Nat.zero_mul, List.drop_zero, Nat.sub_zero, List.take_of_length_le (by rw [flatLen (en := Gue.enc) (sz := 4) (fun _ => rfl)]; omega)])) rfl (Sl.osl 0 rfl) (by omega) (by omega) (by omega) (fun v63 => ?_)) rfl
      refine AB.pure (Sl.isSl (Sl.osl 0 rfl)) fun hz => ?_
      obtain ⟨z1, z2, z3, rfl⟩ := hz
      refine AB.u 19 rfl (by decide +kernel) (Dtu.nilck (lk rfl)) rfl ?_
      refine AB.u 20 rfl (by decide +kernel) (Dtu.fld fa156_2 (lk rfl)) rfl ?_
      refine AB.e 21 rfl (by decide +kernel) (by decide +kernel) (Stp.store 3 Try.sizeOf102 (lk rfl) (lk rfl) rfl rfl rfl rfl rfl rfl rfl ?_)
      refine AB.done (by decide +kernel) ?_
      refine Then.next ?_
      refine Body.region ?_
      refine Ops.u (Dtu.mv (lk rfl)) rfl ?_
      refine Ops.u (Dtu.nilck (lk rfl)) rfl ?_
      refine Ops.u (Dtu.fld fa156_3 (lk rfl)) rfl ?_
      refine Ops.u (Dtu.fld fa154_1 (lk rfl)) rfl ?_
      refine Ops.d (Det.ld Try.isAgg3 (lk rfl) (Rd.ow 3 rfl rfl)) rfl ?_
      refine Ops.u (Dtu.add (lk rfl) (lk rfl) (w64 (by omega) (by omega))) rfl ?_
      refine Ops.u (Dtu.nilck (lk rfl)) rfl ?_
      refine Ops.u (Dtu.fld fa156_3 (lk rfl)) rfl ?_
      refine Ops.u (Dtu.fld fa154_1 (lk rfl)) rfl ?_
      refine Ops.e (Stp.store 3 Try.sizeOf3 (lk rfl) (lk rfl) rfl rfl rfl rfl rfl rfl rfl ?_)
      refine Ops.nil ?_
      exact ⟨.inl rfl, _, pkO [0, 2] rfl, z1, z2, z3, by dsimp only [EOwn]; rw [List.length_append, List.flatMap_append]; rfl⟩
theorem erub_ok (E : Env) (b : Nat) (e : Ech) (N : Int) (h : e.Ok N) (hN : N ≤ 1000000) (a : Option Addr) (m c : Nat) (p : Option Addr) (q k : Nat) : Does Try.prog 97 #[.pointer (some ⟨b, 0, none⟩)] E (EOwn b e (.slice a m c) p q k) fun r H' => ∃ (p' : Option Addr) (q' k' : Nat), H' = EOwn b e.rub (.slice a m c) p' q' k' := by
  have hn := h.n
  have hg := h.g
  refine Does.pure (Sl.lit (Sl.vsl 1 rfl)) fun hq => ?_
  obtain ⟨rfl, hk1, hk2⟩ := hq
  obtain ⟨⟨⟨r1, c1, l1, o1, q1, v1⟩, t1, p1, n1, b1⟩, gs, ar, ac, qt, ty, hi, mi⟩ := e
  dsimp only [EOwn] at hn hg hk1 ⊢
  refine Does.go (args := [.pointer (some ⟨b, 0, none⟩)]) _ _ Try.func97 rfl Try.ntmps97 rfl rfl ?_
  unfold Ech.rub
  by_cases h0 : gs.length = 0
  · rw [if_pos h0]
    refine Body.seq ?_
    refine Body.region ?_
    refine Ops.u (Dtu.mv (lk rfl)) rfl ?_
    refine Ops.u (Dtu.nilck (lk rfl)) rfl ?_
    refine Ops.u (Dtu.fld fa156_2 (lk rfl)) rfl ?_
    refine Ops.d (Det.ld Try.isAgg102 (lk rfl) (Rd.ow 0 rfl rfl)) rfl ?_
    refine Ops.u (Dtu.lenS Try.underlying102 (Sl.vsl 1 rfl) (lk rfl)) rfl ?_
    refine Ops.u (Dtu.sub (lk rfl) (lk rfl) (w64 (by omega) (by omega))) rfl ?_
    refine Ops.u (Dtu.asg (lk rfl)) rfl ?_
    refine Ops.nil ?_
    refine Then.next ?_
    refine Body.seq ?_
    refine Body.seq ?_
    refine Body.region ?_
    refine Ops.u (Dtu.mv (lk rfl)) rfl ?_
    refine Ops.u (Dtu.lss (lk rfl) (lk rfl)) rfl ?_
    refine Ops.nil ?_
    refine Then.next ?_
    refine Body.condP (lk rfl) (fun _ => ?_) (fun hn => absurd (by first | omega | assumption | decide) hn)
    refine Body.seq ?_
    refine Body.region ?_
    refine Ops.u (Dtu.mv (lk rfl)) rfl ?_
    refine Ops.s (Stp.callOwn [0] rfl rfl Try.call98 (lks rfl) (fun E' le hat => egiveUp_ok E' _ ⟨⟨⟨_, _, _, _, _, _⟩, _, _, _, _⟩, _, _, _, _, _, _, _⟩ _ _ _ _ _ _) ?_) rfl
    rintro _ _ rfl
    refine Ops.nil ?_
    refine Then.next ?_
    refine Body.ret ?_
    refine Then.ret ?_
    exact ⟨.inr rfl, _, pkN [0] 4 rfl, none, 0, 0, rfl⟩
  · rw [if_neg h0]
    have hgl : gs[gs.length - 1]! ∈ gs := by rw [getElem!_pos gs _ (by omega)]; exact List.getElem_mem _
    have hgo := hg _ hgl
    obtain ⟨g1, g2, g3⟩ := hgo
    by_cases h1 : gs[gs.length - 1]!.row = ar ∧ gs[gs.length - 1]!.col + 1 = ac
    · have hb : ((gs[gs.length - 1]!.row == ar) && ((gs[gs.length - 1]!.col + 1 == ac) && true)) = true := by simp only [h1.1, h1.2, BEq.rfl, Bool.and_self, Bool.and_true]
      rw [if_neg (fun hn => hn h1)]
      refine Body.seq ?_
      refine Body.region ?_
      refine Ops.u (Dtu.mv (lk rfl)) rfl ?_
      refine Ops.u (Dtu.nilck (lk rfl)) rfl ?_
      refine Ops.u (Dtu.fld fa156_2 (lk rfl)) rfl ?_
      refine Ops.d (Det.ld Try.isAgg102 (lk rfl) (Rd.ow 0 rfl rfl)) rfl ?_
      refine Ops.u (Dtu.lenS Try.underlying102 (Sl.vsl 1 rfl) (lk rfl)) rfl ?_
      refine Ops.u (Dtu.sub (lk rfl) (lk rfl) (w64 (by omega) (by omega))) rfl ?_
      refine Ops.u (Dtu.asg (lk rfl)) rfl ?_
      refine Ops.nil ?_
      refine Then.next ?_
      refine Body.seq ?_
      refine Body.seq ?_
      refine Body.region ?_
      refine Ops.u (Dtu.mv (lk rfl)) rfl ?_
      refine Ops.u (Dtu.lss (lk rfl) (lk rfl)) rfl ?_
      refine Ops.nil ?_
      refine Then.next ?_
      refine Body.condP (lk rfl) (fun hy => absurd hy (by first | omega | assumption | decide)) (fun _ => ?_)
      refine Body.skip ?_
      refine Then.next ?_
      refine Body.seq ?_
      refine Body.region ?_
      refine Ops.u (Dtu.mv (lk rfl)) rfl ?_
      refine Ops.u (Dtu.nilck (lk rfl)) rfl ?_
      refine Ops.u (Dtu.fld fa156_2 (lk rfl)) rfl ?_
      refine Ops.d (Det.ld Try.isAgg102 (lk rfl) (Rd.ow 0 rfl rfl)) rfl ?_
      refine Ops.u (Dtu.mv (lk rfl)) rfl ?_
      refine Ops.u (Dtu.ix (i := (gs.length - 1)) Try.underlying102 Try.sizeOf162 (Sl.vsl 1 rfl) (lk rfl) (lk rfl) (by omega) (by omega)) rfl ?_
      refine Ops.d (Det.lda Try.isAgg162 Try.sizeOf162 (lk rfl) (Rds.sl (Sl.vsl 1 rfl) (gf (sz := 4) (fun _ => rfl) (by omega))) rfl) rfl ?_
      refine Ops.s (Stp.alloc ty162 (fun b3 => ?_)) rfl
      refine Ops.e (Stp.store 0 Try.sizeOf162 (lk rfl) (lk rfl) rfl rfl rfl rfl rfl rfl rfl ?_)
      refine Ops.nil ?_
      refine Then.next ?_
      refine Body.seq ?_
      refine Body.seq ?_
      refine Body.draw mixed ?_
      refine AB.u 0 rfl (by decide +kernel) (Dtu.fld fa162_1 (lk rfl)) rfl ?_
      refine AB.d 1 rfl (by decide +kernel) rfl (Det.ld Try.isAgg3 (lk rfl) (Rd.ow 0 rfl rfl)) rfl ?_
      refine AB.u 2 rfl (by decide +kernel) (Dtu.fld fa162_2 (lk rfl)) rfl ?_
      refine AB.d 3 rfl (by decide +kernel) rfl (Det.ld Try.isAgg3 (lk rfl) (Rd.ow 0 rfl rfl)) rfl ?_
      refine AB.u 4 rfl (by decide +kernel) (Dtu.add (lk rfl) (lk rfl) (w64 (by omega) (by omega))) rfl ?_
      refine AB.u 5 rfl (by decide +kernel) (Dtu.build ty154 pl154 (lkp rfl) rfl rfl) rfl ?_
      refine AB.u 6 rfl (by decide +kernel) (Dtu.mv (lk rfl)) rfl ?_
      refine AB.u 7 rfl (by decide +kernel) (Dtu.nilck (lk rfl)) rfl ?_
      refine AB.u 8 rfl (by decide +kernel) (Dtu.fld fa156_3 (lk rfl)) rfl ?_
      refine AB.d 9 rfl (by decide +kernel) rfl (Det.lda Try.isAgg154 Try.sizeOf154 (lk rfl) (Rds.ow (m := 2) 1 rfl rfl) rfl) rfl ?_
      refine AB.u 10 rfl (by decide +kernel) (Dtu.neS eqGuard154 (eq154 _ _ _ _) (lk rfl) (lk rfl)) rfl ?_
      refine AB.done (by decide +kernel) ?_
      refine Then.next ?_
      refine Body.cond (lk rfl) (fun hn => absurd hn (by first | (rw [hb]; decide) | simp [hb])) (fun _ => ?_)
      refine Body.skip ?_
      refine Then.next ?_
      obtain ⟨y1, y2, y3, hy⟩ : ∃ y1 y2 y3, subSl (.slice p gs.length k) 4 0 (gs.length - 1) (gs.length - 1) = .slice y1 y2 y3 := ⟨_, _, _, rfl⟩
      have hsl : IsSl (subSl (.slice p gs.length k) 4 0 (gs.length - 1) (gs.length - 1)) := ⟨_, _, _, rfl⟩
      have hfin : gs.dropLast.flatMap Gue.enc = (gs.flatMap Gue.enc).take ((gs.length - 1) * 4) := by rw [flat_take (enc := Gue.enc) (sz := 4) (fun _ => rfl), List.dropLast_eq_take]
      have hfl : gs.dropLast.length = gs.length - 1 := List.length_dropLast
      refine Body.seqJ (γ := Unit) rfl (fun _ => []) (fun _ => [own b ((Ech.cut ⟨⟨⟨r1, c1, l1, o1, q1, v1⟩, t1, p1, n1, b1⟩, gs, ar, ac, qt, ty, hi, mi⟩ gs[gs.length - 1]!).cells (.slice a m c) (subSl (.slice p gs.length k) 4 0 (gs.length - 1) (gs.length - 1))) 156, vsl 4 (.slice p gs.length k) gs.length (gs.flatMap Gue.enc)]) (fun _ => True) ?_ ?_
      · refine Body.drawW mixed ?_
        refine AW.u 0 rfl (by decide +kernel) (Dtu.mv (lk rfl)) rfl ?_
        refine AW.u 1 rfl (by decide +kernel) (Dtu.mv (lk rfl)) rfl ?_
        refine AW.u 2 rfl (by decide +kernel) (Dtu.mv (lk rfl)) rfl ?_
        refine AW.u 3 rfl (by decide +kernel) (Dtu.nilck (lk rfl)) rfl ?_
        refine AW.u 4 rfl (by decide +kernel) (Dtu.fld fa156_2 (lk rfl)) rfl ?_
        refine AW.u 6 rfl (by decide +kernel) (Dtu.mv (lk rfl)) rfl ?_
        refine AW.u 7 rfl (by decide +kernel) (Dtu.mv (lk rfl)) rfl ?_
        refine AW.u 9 rfl (by decide +kernel) (Dtu.fld fa162_1 (lk rfl)) rfl ?_
        refine AW.u 11 rfl (by decide +kernel) (Dtu.fld fa162_2 (lk rfl)) rfl ?_
        refine AW.more [5, 10, 12] (by decide +kernel) rfl ⟨?_, ?_, ?_, trivial⟩
        · refine AWI.d rfl (Det.ld Try.isAgg102 (lk rfl) (Rd.ow 1 rfl rfl)) rfl ?_
          refine AW.u 8 rfl (by decide +kernel) (Dtu.slHM (gs.length - 1) (gs.length - 1) Try.underlying102 Try.sizeOf162 (Sl.vsl 2 rfl) (lk rfl) (lk rfl) (lk rfl) (by omega) (by omega) (by omega) (by omega)) rfl ?_
          refine AW.u 14 rfl (by decide +kernel) (Dtu.nilck (lk rfl)) rfl ?_
          refine AW.u 15 rfl (by decide +kernel) (Dtu.fld fa156_2 (lk rfl)) rfl ?_
          refine AW.more [10, 12, 16] (by decide +kernel) rfl ⟨?_, ?_, ?_, trivial⟩
          · refine AWI.d rfl (Det.ld Try.isAgg3 (lk rfl) (Rd.ow 0 rfl rfl)) rfl ?_
            refine AW.more [12, 16] (by decide +kernel) rfl ⟨?_, ?_, trivial⟩
            · refine AWI.d rfl (Det.ld Try.isAgg3 (lk rfl) (Rd.ow 0 rfl rfl)) rfl ?_
              refine AW.u 13 rfl (by decide +kernel) (Dtu.build ty154 pl154 (lkp rfl) rfl rfl) rfl ?_
              refine AW.more [16] (by decide +kernel) rfl ⟨?_, trivial⟩
              refine AWI.e rfl (Stp.store 1 Try.sizeOf102 (lk rfl) (lk rfl) rfl rfl rfl rfl rfl rfl rfl ?_)
              refine AW.u 17 rfl (by decide +kernel) (Dtu.nilck (lk rfl)) rfl ?_
              refine AW.u 18 rfl (by decide +kernel) (Dtu.fld fa156_3 (lk rfl)) rfl ?_
              refine AW.more [19] (by decide +kernel) rfl ⟨?_, trivial⟩
              refine AWI.e rfl (Stp.store 1 Try.sizeOf154 (lk rfl) (lk rfl) rfl rfl rfl rfl rfl rfl rfl ?_)
              refine AW.done (by decide +kernel) ?_
              refine Joint.goK [1, 1] () rfl rfl rfl trivial rfl rfl trivial
            · refine AWI.e rfl (Stp.store 1 Try.sizeOf102 (lk rfl) (lk rfl) rfl rfl rfl rfl rfl rfl rfl ?_)
              refine AW.more [12] (by decide +kernel) rfl ⟨?_, trivial⟩
              refine AWI.d rfl (Det.ld Try.isAgg3 (lk rfl) (Rd.ow 0 rfl rfl)) rfl ?_
              refine AW.u 13 rfl (by decide +kernel) (Dtu.build ty154 pl154 (lkp rfl) rfl rfl) rfl ?_
              refine AW.u 17 rfl (by decide +kernel) (Dtu.nilck (lk rfl)) rfl ?_
              refine AW.u 18 rfl (by decide +kernel) (Dtu.fld fa156_3 (lk rfl)) rfl ?_
              refine AW.more [19] (by decide +kernel) rfl ⟨?_, trivial⟩
              refine AWI.e rfl (Stp.store 1 Try.sizeOf154 (lk rfl) (lk rfl) rfl rfl rfl rfl rfl rfl rfl ?_)
              refine AW.done (by decide +kernel) ?_
              refine Joint.goK [1, 1] () rfl rfl rfl trivial rfl rfl trivial
          · refine AWI.d rfl (Det.ld Try.isAgg3 (lk rfl) (Rd.ow 0 rfl rfl)) rfl ?_
            refine AW.more [10, 16] (by decide +kernel) rfl ⟨?_, ?_, trivial⟩
            · refine AWI.d rfl (Det.ld Try.isAgg3 (lk rfl) (Rd.ow 0 rfl rfl)) rfl ?_
              refine AW.u 13 rfl (by decide +kernel) (Dtu.build ty154 pl154 (lkp rfl) rfl rfl) rfl ?_
              refine AW.more [16] (by decide +kernel) rfl ⟨?_, trivial⟩
              refine AWI.e rfl (Stp.store 1 Try.sizeOf102 (lk rfl) (lk rfl) rfl rfl rfl rfl rfl rfl rfl ?_)
              refine AW.u 17 rfl (by decide +kernel) (Dtu.nilck (lk rfl)) rfl ?_
              refine AW.u 18 rfl (by decide +kernel) (Dtu.fld fa156_3 (lk rfl)) rfl ?_
              refine AW.more [19] (by decide +kernel) rfl ⟨?_, trivial⟩
              refine AWI.e rfl (Stp.store 1 Try.sizeOf154 (lk rfl) (lk rfl) rfl rfl rfl rfl rfl rfl rfl ?_)
              refine AW.done (by decide +kernel) ?_
              refine Joint.goK [1, 1] () rfl rfl rfl trivial rfl rfl trivial
            · refine AWI.e rfl (Stp.store 1 Try.sizeOf102 (lk rfl) (lk rfl) rfl rfl rfl rfl rfl rfl rfl ?_)
              refine AW.more [10] (by decide +kernel) rfl ⟨?_, trivial⟩
              refine AWI.d rfl (Det.ld Try.isAgg3 (lk rfl) (Rd.ow 0 rfl rfl)) rfl ?_
              refine AW.u 13 rfl (by decide +kernel) (Dtu.build ty154 pl154 (lkp rfl) rfl rfl) rfl ?_
              refine AW.u 17 rfl (by decide +kernel) (Dtu.nilck (lk rfl)) rfl ?_
              refine AW.u 18 rfl (by decide +kernel) (Dtu.fld fa156_3 (lk rfl)) rfl ?_
              refine AW.more [19] (by decide +kernel) rfl ⟨?_, trivial⟩
              refine AWI.e rfl (Stp.store 1 Try.sizeOf154 (lk rfl) (lk rfl) rfl rfl rfl rfl rfl rfl rfl ?_)
              refine AW.done (by decide +kernel) ?_
              refine Joint.goK [1, 1] () rfl rfl rfl trivial rfl rfl trivial
          · refine AWI.e rfl (Stp.store 1 Try.sizeOf102 (lk rfl) (lk rfl) rfl rfl rfl rfl rfl rfl rfl ?_)
            refine AW.more [10, 12] (by decide +kernel) rfl ⟨?_, ?_, trivial⟩
            · refine AWI.d rfl (Det.ld Try.isAgg3 (lk rfl) (Rd.ow 0 rfl rfl)) rfl ?_
              refine AW.more [12] (by decide +kernel) rfl ⟨?_, trivial⟩
              refine AWI.d rfl (Det.ld Try.isAgg3 (lk rfl) (Rd.ow 0 rfl rfl)) rfl ?_
              refine AW.u 13 rfl (by decide +kernel) (Dtu.build ty154 pl154 (lkp rfl) rfl rfl) rfl ?_
              refine AW.u 17 rfl (by decide +kernel) (Dtu.nilck (lk rfl)) rfl ?_
              refine AW.u 18 rfl (by decide +kernel) (Dtu.fld fa156_3 (lk rfl)) rfl ?_
              refine AW.more [19] (by decide +kernel) rfl ⟨?_, trivial⟩
              refine AWI.e rfl (Stp.store 1 Try.sizeOf154 (lk rfl) (lk rfl) rfl rfl rfl rfl rfl rfl rfl ?_)
              refine AW.done (by decide +kernel) ?_
              refine Joint.goK [1, 1] () rfl rfl rfl trivial rfl rfl trivial
            · refine AWI.d rfl (Det.ld Try.isAgg3 (lk rfl) (Rd.ow 0 rfl rfl)) rfl ?_
              refine AW.more [10] (by decide +kernel) rfl ⟨?_, trivial⟩
              refine AWI.d rfl (Det.ld Try.isAgg3 (lk rfl) (Rd.ow 0 rfl rfl)) rfl ?_
              refine AW.u 13 rfl (by decide +kernel) (Dtu.build ty154 pl154 (lkp rfl) rfl rfl) rfl ?_
              refine AW.u 17 rfl (by decide +kernel) (Dtu.nilck (lk rfl)) rfl ?_
              refine AW.u 18 rfl (by decide +kernel) (Dtu.fld fa156_3 (lk rfl)) rfl ?_
              refine AW.more [19] (by decide +kernel) rfl ⟨?_, trivial⟩
              refine AWI.e rfl (Stp.store 1 Try.sizeOf154 (lk rfl) (lk rfl) rfl rfl rfl rfl rfl rfl rfl ?_)
              refine AW.done (by decide +kernel) ?_
              refine Joint.goK [1, 1] () rfl rfl rfl trivial rfl rfl trivial
        · refine AWI.d rfl (Det.ld Try.isAgg3 (lk rfl) (Rd.ow 0 rfl rfl)) rfl ?_
          refine AW.more [5, 12] (by decide +kernel) rfl ⟨?_, ?_, trivial⟩
          · refine AWI.d rfl (Det.ld Try.isAgg102 (lk rfl) (Rd.ow 1 rfl rfl)) rfl ?_
            refine AW.u 8 rfl (by decide +kernel) (Dtu.slHM (gs.length - 1) (gs.length - 1) Try.underlying102 Try.sizeOf162 (Sl.vsl 2 rfl) (lk rfl) (lk rfl) (lk rfl) (by omega) (by omega) (by omega) (by omega)) rfl ?_
            refine AW.u 14 rfl (by decide +kernel) (Dtu.nilck (lk rfl)) rfl ?_
            refine AW.u 15 rfl (by decide +kernel) (Dtu.fld fa156_2 (lk rfl)) rfl ?_
            refine AW.more [12, 16] (by decide +kernel) rfl ⟨?_, ?_, trivial⟩
            · refine AWI.d rfl (Det.ld Try.isAgg3 (lk rfl) (Rd.ow 0 rfl rfl)) rfl ?_
              refine AW.u 13 rfl (by decide +kernel) (Dtu.build ty154 pl154 (lkp rfl) rfl rfl) rfl ?_
              refine AW.more [16] (by decide +kernel) rfl ⟨?_, trivial⟩
              refine AWI.e rfl (Stp.store 1 Try.sizeOf102 (lk rfl) (lk rfl) rfl rfl rfl rfl rfl rfl rfl ?_)
              refine AW.u 17 rfl (by decide +kernel) (Dtu.nilck (lk rfl)) rfl ?_
              refine AW.u 18 rfl (by decide +kernel) (Dtu.fld fa156_3 (lk rfl)) rfl ?_
              refine AW.more [19] (by decide +kernel) rfl ⟨?_, trivial⟩
              refine AWI.e rfl (Stp.store 1 Try.sizeOf154 (lk rfl) (lk rfl) rfl rfl rfl rfl rfl rfl rfl ?_)
              refine AW.done (by decide +kernel) ?_
              refine Joint.goK [1, 1] () rfl rfl rfl trivial rfl rfl trivial
            · refine AWI.e rfl (Stp.store 1 Try.sizeOf102 (lk rfl) (lk rfl) rfl rfl rfl rfl rfl rfl rfl ?_)
              refine AW.more [12] (by decide +kernel) rfl ⟨?_, trivial⟩
              refine AWI.d rfl (Det.ld Try.isAgg3 (lk rfl) (Rd.ow 0 rfl rfl)) rfl ?_
              refine AW.u 13 rfl (by decide +kernel) (Dtu.build ty154 pl154 (lkp rfl) rfl rfl) rfl ?_
              refine AW.u 17 rfl (by decide +kernel) (Dtu.nilck (lk rfl)) rfl ?_
              refine AW.u 18 rfl (by decide +kernel) (Dtu.fld fa156_3 (lk rfl)) rfl ?_
              refine AW.more [19] (by decide +kernel) rfl ⟨?_, trivial⟩
              refine AWI.e rfl (Stp.store 1 Try.sizeOf154 (lk rfl) (lk rfl) rfl rfl rfl rfl rfl rfl rfl ?_)
              refine AW.done (by decide +kernel) ?_
              refine Joint.goK [1, 1] () rfl rfl rfl trivial rfl rfl trivial
          · refine AWI.d rfl (Det.ld Try.isAgg3 (lk rfl) (Rd.ow 0 rfl rfl)) rfl ?_
            refine AW.u 13 rfl (by decide +kernel) (Dtu.build ty154 pl154 (lkp rfl) rfl rfl) rfl ?_
            refine AW.more [5] (by decide +kernel) rfl ⟨?_, trivial⟩
            refine AWI.d rfl (Det.ld Try.isAgg102 (lk rfl) (Rd.ow 1 rfl rfl)) rfl ?_
            refine AW.u 8 rfl (by decide +kernel) (Dtu.slHM (gs.length - 1) (gs.length - 1) Try.underlying102 Try.sizeOf162 (Sl.vsl 2 rfl) (lk rfl) (lk rfl) (lk rfl) (by omega) (by omega) (by omega) (by omega)) rfl ?_
            refine AW.u 14 rfl (by decide +kernel) (Dtu.nilck (lk rfl)) rfl ?_
            refine AW.u 15 rfl (by decide +kernel) (Dtu.fld fa156_2 (lk rfl)) rfl ?_
            refine AW.more [16] (by decide +kernel) rfl ⟨?_, trivial⟩
            refine AWI.e rfl (Stp.store 1 Try.sizeOf102 (lk rfl) (lk rfl) rfl rfl rfl rfl rfl rfl rfl ?_)
            refine AW.u 17 rfl (by decide +kernel) (Dtu.nilck (lk rfl)) rfl ?_
            refine AW.u 18 rfl (by decide +kernel) (Dtu.fld fa156_3 (lk rfl)) rfl ?_
            refine AW.more [19] (by decide +kernel) rfl ⟨?_, trivial⟩
            refine AWI.e rfl (Stp.store 1 Try.sizeOf154 (lk rfl) (lk rfl) rfl rfl rfl rfl rfl rfl rfl ?_)
            refine AW.done (by decide +kernel) ?_
            refine Joint.goK [1, 1] () rfl rfl rfl trivial rfl rfl trivial
        · refine AWI.d rfl (Det.ld Try.isAgg3 (lk rfl) (Rd.ow 0 rfl rfl)) rfl ?_
          refine AW.more [5, 10] (by decide +kernel) rfl ⟨?_, ?_, trivial⟩
          · refine AWI.d rfl (Det.ld Try.isAgg102 (lk rfl) (Rd.ow 1 rfl rfl)) rfl ?_
            refine AW.u 8 rfl (by decide +kernel) (Dtu.slHM (gs.length - 1) (gs.length - 1) Try.underlying102 Try.sizeOf162 (Sl.vsl 2 rfl) (lk rfl) (lk rfl) (lk rfl) (by omega) (by omega) (by omega) (by omega)) rfl ?_
            refine AW.u 14 rfl (by decide +kernel) (Dtu.nilck (lk rfl)) rfl ?_
            refine AW.u 15 rfl (by decide +kernel) (Dtu.fld fa156_2 (lk rfl)) rfl ?_
            refine AW.more [10, 16] (by decide +kernel) rfl ⟨?_, ?_, trivial⟩
            · refine AWI.d rfl (Det.ld Try.isAgg3 (lk rfl) (Rd.ow 0 rfl rfl)) rfl ?_
              refine AW.u 13 rfl (by decide +kernel) (Dtu.build ty154 pl154 (lkp rfl) rfl rfl) rfl ?_
              refine AW.more [16] (by decide +kernel) rfl ⟨?_, trivial⟩
              refine AWI.e rfl (Stp.store 1 Try.sizeOf102 (lk rfl) (lk rfl) rfl rfl rfl rfl rfl rfl rfl ?_)
              refine AW.u 17 rfl (by decide +kernel) (Dtu.nilck (lk rfl)) rfl ?_
              refine AW.u 18 rfl (by decide +kernel) (Dtu.fld fa156_3 (lk rfl)) rfl ?_
              refine AW.more [19] (by decide +kernel) rfl ⟨?_, trivial⟩
              refine AWI.e rfl (Stp.store 1 Try.sizeOf154 (lk rfl) (lk rfl) rfl rfl rfl rfl rfl rfl rfl ?_)
              refine AW.done (by decide +kernel) ?_
              refine Joint.goK [1, 1] () rfl rfl rfl trivial rfl rfl trivial
            · refine AWI.e rfl (Stp.store 1 Try.sizeOf102 (lk rfl) (lk rfl) rfl rfl rfl rfl rfl rfl rfl ?_)
              refine AW.more [10] (by decide +kernel) rfl ⟨?_, trivial⟩
              refine AWI.d rfl (Det.ld Try.isAgg3 (lk rfl) (Rd.ow 0 rfl rfl)) rfl ?_
              refine AW.u 13 rfl (by decide +kernel) (Dtu.build ty154 pl154 (lkp rfl) rfl rfl) rfl ?_
              refine AW.u 17 rfl (by decide +kernel) (Dtu.nilck (lk rfl)) rfl ?_
              refine AW.u 18 rfl (by decide +kernel) (Dtu.fld fa156_3 (lk rfl)) rfl ?_
              refine AW.more [19] (by decide +kernel) rfl ⟨?_, trivial⟩
              refine AWI.e rfl (Stp.store 1 Try.sizeOf154 (lk rfl) (lk rfl) rfl rfl rfl rfl rfl rfl rfl ?_)
              refine AW.done (by decide +kernel) ?_
              refine Joint.goK [1, 1] () rfl rfl rfl trivial rfl rfl trivial
          · refine AWI.d rfl (Det.ld Try.isAgg3 (lk rfl) (Rd.ow 0 rfl rfl)) rfl ?_
            refine AW.u 13 rfl (by decide +kernel) (Dtu.build ty154 pl154 (lkp rfl) rfl rfl) rfl ?_
            refine AW.more [5] (by decide +kernel) rfl ⟨?_, trivial⟩
            refine AWI.d rfl (Det.ld Try.isAgg102 (lk rfl) (Rd.ow 1 rfl rfl)) rfl ?_
            refine AW.u 8 rfl (by decide +kernel) (Dtu.slHM (gs.length - 1) (gs.length - 1) Try.underlying102 Try.sizeOf162 (Sl.vsl 2 rfl) (lk rfl) (lk rfl) (lk rfl) (by omega) (by omega) (by omega) (by omega)) rfl ?_
            refine AW.u 14 rfl (by decide +kernel) (Dtu.nilck (lk rfl)) rfl ?_
            refine AW.u 15 rfl (by decide +kernel) (Dtu.fld fa156_2 (lk rfl)) rfl ?_
            refine AW.more [16] (by decide +kernel) rfl ⟨?_, trivial⟩
            refine AWI.e rfl (Stp.store 1 Try.sizeOf102 (lk rfl) (lk rfl) rfl rfl rfl rfl rfl rfl rfl ?_)
            refine AW.u 17 rfl (by decide +kernel) (Dtu.nilck (lk rfl)) rfl ?_
            refine AW.u 18 rfl (by decide +kernel) (Dtu.fld fa156_3 (lk rfl)) rfl ?_
            refine AW.more [19] (by decide +kernel) rfl ⟨?_, trivial⟩
            refine AWI.e rfl (Stp.store 1 Try.sizeOf154 (lk rfl) (lk rfl) rfl rfl rfl rfl rfl rfl rfl ?_)
            refine AW.done (by decide +kernel) ?_
            refine Joint.goK [1, 1] () rfl rfl rfl trivial rfl rfl trivial
      · rintro ⟨⟩ u _
        rw [hy]
        by_cases hl : gs.length = 1
        · rw [if_pos hl]
          refine Body.seq ?_
          refine Body.region ?_
          refine Ops.u (Dtu.mv (lk rfl)) rfl ?_
          refine Ops.u (Dtu.eql (lk rfl) (lk rfl)) rfl ?_
          refine Ops.nil ?_
          refine Then.next ?_
          refine Body.condP (lk rfl) (fun _ => ?_) (fun hn => absurd (by first | omega | assumption | decide) hn)
          refine Body.region ?_
          refine Ops.u (Dtu.mv (lk rfl)) rfl ?_
          refine Ops.s (Stp.callOwn [0] rfl rfl Try.call91 (lks rfl) (fun E' le hat => erest_ok E' _ ⟨⟨⟨_, _, _, _, _, _⟩, _, _, _, _⟩, _, _, _, _, _, _, _⟩ _ _ _ _ _ _) ?_) rfl
          rintro _ _ rfl
          refine Ops.nil ?_
          exact ⟨.inl rfl, _, pkN [0] 4 rfl, none, 0, 0, rfl⟩
        · rw [if_neg hl]
          refine Body.seq ?_
          refine Body.region ?_
          refine Ops.u (Dtu.mv (lk rfl)) rfl ?_
          refine Ops.u (Dtu.eql (lk rfl) (lk rfl)) rfl ?_
          refine Ops.nil ?_
          refine Then.next ?_
          refine Body.condP (lk rfl) (fun hy => absurd hy (by first | omega | assumption | decide)) (fun _ => ?_)
          refine Body.skip ?_
          exact ⟨.inl rfl, _, fun w s => hy ▸ pkP [1, 0] (show gs.length - 1 ≤ gs.length by omega) rfl w s, y1, y2, y3, by dsimp only [EOwn, Ech.cut]; rw [hfin, hfl]; rfl⟩
    · have hb : ((gs[gs.length - 1]!.row == ar) && ((gs[gs.length - 1]!.col + 1 == ac) && true)) = false := by
        rw [← Bool.not_eq_true]; intro hh; simp only [Bool.and_eq_true, beq_iff_eq, and_true] at hh; exact h1 hh
      rw [if_pos h1]
      refine Body.seq ?_
      refine Body.region ?_
      refine Ops.u (Dtu.mv (lk rfl)) rfl ?_
      refine Ops.u (Dtu.nilck (lk rfl)) rfl ?_
      refine Ops.u (Dtu.fld fa156_2 (lk rfl)) rfl ?_
      refine Ops.d (Det.ld Try.isAgg102 (lk rfl) (Rd.ow 0 rfl rfl)) rfl ?_
      refine Ops.u (Dtu.lenS Try.underlying102 (Sl.vsl 1 rfl) (lk rfl)) rfl ?_
      refine Ops.u (Dtu.sub (lk rfl) (lk rfl) (w64 (by omega) (by omega))) rfl ?_
      refine Ops.u (Dtu.asg (lk rfl)) rfl ?_
      refine Ops.nil ?_
      refine Then.next ?_
      refine Body.seq ?_
      refine Body.seq ?_
      refine Body.region ?_
      refine Ops.u (Dtu.mv (lk rfl)) rfl ?_
      refine Ops.u (Dtu.lss (lk rfl) (lk rfl)) rfl ?_
      refine Ops.nil ?_
      refine Then.next ?_
      refine Body.condP (lk rfl) (fun hy => absurd hy (by first | omega | assumption | decide)) (fun _ => ?_)
      refine Body.skip ?_
      refine Then.next ?_
      refine Body.seq ?_
      refine Body.region ?_
      refine Ops.u (Dtu.mv (lk rfl)) rfl ?_
      refine Ops.u (Dtu.nilck (lk rfl)) rfl ?_
      refine Ops.u (Dtu.fld fa156_2 (lk rfl)) rfl ?_
      refine Ops.d (Det.ld Try.isAgg102 (lk rfl) (Rd.ow 0 rfl rfl)) rfl ?_
      refine Ops.u (Dtu.mv (lk rfl)) rfl ?_
      refine Ops.u (Dtu.ix (i := (gs.length - 1)) Try.underlying102 Try.sizeOf162 (Sl.vsl 1 rfl) (lk rfl) (lk rfl) (by omega) (by omega)) rfl ?_
      refine Ops.d (Det.lda Try.isAgg162 Try.sizeOf162 (lk rfl) (Rds.sl (Sl.vsl 1 rfl) (gf (sz := 4) (fun _ => rfl) (by omega))) rfl) rfl ?_
      refine Ops.s (Stp.alloc ty162 (fun b3 => ?_)) rfl
      refine Ops.e (Stp.store 0 Try.sizeOf162 (lk rfl) (lk rfl) rfl rfl rfl rfl rfl rfl rfl ?_)
      refine Ops.nil ?_
      refine Then.next ?_
      refine Body.seq ?_
      refine Body.seq ?_
      refine Body.draw mixed ?_
      refine AB.u 0 rfl (by decide +kernel) (Dtu.fld fa162_1 (lk rfl)) rfl ?_
      refine AB.d 1 rfl (by decide +kernel) rfl (Det.ld Try.isAgg3 (lk rfl) (Rd.ow 0 rfl rfl)) rfl ?_
      refine AB.u 2 rfl (by decide +kernel) (Dtu.fld fa162_2 (lk rfl)) rfl ?_
      refine AB.d 3 rfl (by decide +kernel) rfl (Det.ld Try.isAgg3 (lk rfl) (Rd.ow 0 rfl rfl)) rfl ?_
      refine AB.u 4 rfl (by decide +kernel) (Dtu.add (lk rfl) (lk rfl) (w64 (by omega) (by omega))) rfl ?_
      refine AB.u 5 rfl (by decide +kernel) (Dtu.build ty154 pl154 (lkp rfl) rfl rfl) rfl ?_
      refine AB.u 6 rfl (by decide +kernel) (Dtu.mv (lk rfl)) rfl ?_
      refine AB.u 7 rfl (by decide +kernel) (Dtu.nilck (lk rfl)) rfl ?_
      refine AB.u 8 rfl (by decide +kernel) (Dtu.fld fa156_3 (lk rfl)) rfl ?_
      refine AB.d 9 rfl (by decide +kernel) rfl (Det.lda Try.isAgg154 Try.sizeOf154 (lk rfl) (Rds.ow (m := 2) 1 rfl rfl) rfl) rfl ?_
      refine AB.u 10 rfl (by decide +kernel) (Dtu.neS eqGuard154 (eq154 _ _ _ _) (lk rfl) (lk rfl)) rfl ?_
      refine AB.done (by decide +kernel) ?_
      refine Then.next ?_
      refine Body.cond (lk rfl) (fun _ => ?_) (fun hn => absurd hn (by first | (rw [hb]; decide) | simp [hb]))
      refine Body.seq ?_
      refine Body.region ?_
      refine Ops.u (Dtu.mv (lk rfl)) rfl ?_
      refine Ops.s (Stp.callOwn [1] rfl rfl Try.call98 (lks rfl) (fun E' le hat => egiveUp_ok E' _ ⟨⟨⟨_, _, _, _, _, _⟩, _, _, _, _⟩, _, _, _, _, _, _, _⟩ _ _ _ _ _ _) ?_) rfl
      rintro _ _ rfl
      refine Ops.nil ?_
      refine Then.next ?_
      refine Body.ret ?_
      refine Then.ret ?_
      exact ⟨.inr rfl, _, pkN [0] 4 rfl, none, 0, 0, rfl⟩
end Go.Proofs.Ytijjjdljdjnbaaa
end
section
/- Guesses: keys. -/
namespace Go.Proofs.Ytijjjdljdjnbaaa
set_option maxRecDepth 100000
set_option linter.unusedVariables false
set_option linter.unusedSimpArgs false
open Go.Sx

theorem etype_ok (E : Env) (b : Nat) (e : Ech) (N : Int) (h : e.Ok N) (a : Option Addr) (m c : Nat) (p : Option Addr) (q k : Nat) (s : Value) (bs : List Int) (hs : Sl E [] 1 s bs.length (bs.map (.int .u8))) (hbt : Byt bs) (hN : N + bs.length ≤ 1000000) :
    Does Try.prog 52 #[.pointer (some ⟨b, 0, none⟩), s] E (EOwn b e (.slice a m c) p q k) fun r H' => r = .int .i64 0 ∧ ∃ (p' : Option Addr) (q' k' : Nat), H' = EOwn b (e.type bs) (.slice a m c) p' q' k' := by
  refine Does.pure (Sl.up hs).len fun hlen => ?_
  refine Does.go (args := [.pointer (some ⟨b, 0, none⟩), s]) _ _ Try.func52 rfl Try.ntmps52 rfl rfl ?_
  refine Body.seq ?_
  refine Body.region ?_
  refine Ops.u (Dtu.asg (lk rfl)) rfl ?_
  refine Ops.nil ?_
  refine Then.next ?_
  refine Body.scope ?_
  refine Body.seq ?_
  refine Body.seq ?_
  refine Body.region ?_
  refine Ops.u (Dtu.mv (lk rfl)) rfl ?_
  refine Ops.s (Stp.callOwn [0] rfl rfl Try.call95 (lks rfl) (fun E' le hat => eis_ok E' _ ⟨⟨⟨_, _, _, _, _, _⟩, _, _, _, _⟩, _, _, _, _, _, _, _⟩ _ _) ?_) rfl
  rintro _ _ ⟨rfl, rfl⟩
  refine Ops.u (Dtu.not (lk rfl)) rfl ?_
  refine Ops.nil ?_
  refine Then.next ?_
  refine Body.condF (lk rfl) ?_
  refine Body.skip ?_
  refine Then.next ?_
  refine Body.seq ?_
  refine Body.label ?_
  refine Then.next ?_
  refine Body.seq ?_
  refine Body.seq ?_
  refine Body.region ?_
  refine Ops.u (Dtu.mv (lk rfl)) rfl ?_
  refine Ops.u (Dtu.lenS Try.underlying32 (Sl.up hs) (lk rfl)) rfl ?_
  refine Ops.u (Dtu.mv (lk rfl)) rfl ?_
  refine Ops.nil ?_
  refine Then.next ?_
  refine Body.block ?_
  refine Body.loopF (γ := Nat × Option Addr × Nat × Nat) rfl (fun g => [(12, .int .i64 g.1)]) (fun g => EOwn b (e.type (bs.take g.1)) (.slice a m c) g.2.1 g.2.2.1 g.2.2.2) (fun g => g.1 ≤ bs.length) (fun g => bs.length - g.1) (0, p, q, k) (Nat.zero_le _) ⟨rfl, trivial⟩ rfl ?_
  rintro ⟨i, p, q, k⟩ u hi
  dsimp only at hi ⊢
  have hok := (Ech.Ok.type (bs.take i) h).mono (show N + ((bs.take i).length : Int) ≤ N + i by simp; omega)
  obtain ⟨M, hMe⟩ : ∃ M, M = N + (i : Int) := ⟨_, rfl⟩
  rw [← hMe] at hok
  have hM : M ≤ 1000000 := by omega
  by_cases hlt : i < bs.length
  · have hbi := hbt i hlt
    have hnext : e.type (bs.take (i + 1)) = (e.type (bs.take i)).key bs[i]! := by
      unfold Ech.type
      rw [List.take_succ_eq_append_getElem hlt, List.foldl_append, getElem!_pos bs i hlt]; rfl
    generalize hnx2 : e.type (bs.take (i + 1)) = e2 at *
    generalize e.type (bs.take i) = x at *
    have hty := hok.ty
    obtain ⟨⟨⟨r1, c1, l1, o1, q1, v1⟩, t1, p1, n1, b1⟩, gs, ar, ac, qt, ty, hi, mi⟩ := x
    dsimp only at hty
    refine Body.seq ?_
    refine Body.region ?_
    refine Ops.u (Dtu.lss (lk rfl) (lk rfl)) rfl ?_
    refine Ops.nil ?_
    refine Then.next ?_
    refine Body.seq ?_
    refine Body.condP (lk rfl) (fun _ => ?_) (fun hn => absurd (by first | omega | assumption | decide) hn)
    refine Body.skip ?_
    refine Then.next ?_
    refine Body.seqJ (γ := Option Addr × Nat × Nat) rfl (fun _ => []) (fun g => EOwn b e2 (.slice a m c) g.1 g.2.1 g.2.2) (fun _ => True) ?_ ?_
    · cases qt with
      | true =>
        have hst : e2 = ⟨⟨⟨r1, c1, l1, o1, q1, v1⟩, t1, p1, n1, b1⟩, gs, ar, ac, true, ty + 1, hi, mi⟩ := hnext
        subst hst
        refine Body.block ?_
        refine Body.seq ?_
        refine Body.region ?_
        refine Ops.u (Dtu.ix (i := (i)) Try.underlying32 Try.sizeOf5 (Sl.up hs) (lk rfl) (lk rfl) (by omega) (by omega)) rfl ?_
        refine Ops.d (Det.ld Try.isAgg5 (lk rfl) (Rd.sl (Sl.up hs) (gm (by omega)))) rfl ?_
        refine Ops.u (Dtu.asg (lk rfl)) rfl ?_
        refine Ops.nil ?_
        refine Then.next ?_
        refine Body.seq ?_
        refine Body.seq ?_
        refine Body.region ?_
        refine Ops.u (Dtu.mv (lk rfl)) rfl ?_
        refine Ops.u (Dtu.nilck (lk rfl)) rfl ?_
        refine Ops.u (Dtu.fld fa156_4 (lk rfl)) rfl ?_
        refine Ops.d (Det.ld Try.isAgg4 (lk rfl) (Rd.ow 0 rfl rfl)) rfl ?_
        refine Ops.nil ?_
        refine Then.next ?_
        refine Body.condT (lk rfl) ?_
        refine Body.seq ?_
        refine Body.region ?_
        refine Ops.u (Dtu.mv (lk rfl)) rfl ?_
        refine Ops.u (Dtu.nilck (lk rfl)) rfl ?_
        refine Ops.u (Dtu.fld fa156_5 (lk rfl)) rfl ?_
        refine Ops.d (Det.ld Try.isAgg75 (lk rfl) (Rd.ow 0 rfl rfl)) rfl ?_
        refine Ops.u (Dtu.add (lk rfl) (lk rfl) (wu64 (by omega) (by omega))) rfl ?_
        refine Ops.u (Dtu.nilck (lk rfl)) rfl ?_
        refine Ops.u (Dtu.fld fa156_5 (lk rfl)) rfl ?_
        refine Ops.e (Stp.store 0 Try.sizeOf75 (lk rfl) (lk rfl) rfl rfl rfl rfl rfl rfl rfl ?_)
        refine Ops.nil ?_
        refine Then.next ?_
        refine Body.exit ?_
        refine Then.exit ?_
        refine Blk.here ?_
        refine Joint.goK [0, 0] (p, q, k) rfl rfl rfl trivial rfl rfl trivial
      | false =>
        refine Body.block ?_
        refine Body.seq ?_
        refine Body.region ?_
        refine Ops.u (Dtu.ix (i := (i)) Try.underlying32 Try.sizeOf5 (Sl.up hs) (lk rfl) (lk rfl) (by omega) (by omega)) rfl ?_
        refine Ops.d (Det.ld Try.isAgg5 (lk rfl) (Rd.sl (Sl.up hs) (gm (by omega)))) rfl ?_
        refine Ops.u (Dtu.asg (lk rfl)) rfl ?_
        refine Ops.nil ?_
        refine Then.next ?_
        refine Body.seq ?_
        refine Body.seq ?_
        refine Body.region ?_
        refine Ops.u (Dtu.mv (lk rfl)) rfl ?_
        refine Ops.u (Dtu.nilck (lk rfl)) rfl ?_
        refine Ops.u (Dtu.fld fa156_4 (lk rfl)) rfl ?_
        refine Ops.d (Det.ld Try.isAgg4 (lk rfl) (Rd.ow 0 rfl rfl)) rfl ?_
        refine Ops.nil ?_
        refine Then.next ?_
        refine Body.condF (lk rfl) ?_
        refine Body.skip ?_
        refine Then.next ?_
        have hst : e2 = (Ech.stroke ⟨⟨⟨r1, c1, l1, o1, q1, v1⟩, t1, p1, n1, b1⟩, gs, ar, ac, false, ty, hi, mi⟩ bs[i]!).tick := hnext
        have hs0 := hok.stroke bs[i]!
        have hsn : Ech.stroke ⟨⟨⟨r1, c1, l1, o1, q1, v1⟩, t1, p1, n1, b1⟩, gs, ar, ac, false, ty, hi, mi⟩ bs[i]! = if 32 ≤ bs[i]! ∧ bs[i]! ≤ 126 then Ech.print ⟨⟨⟨r1, c1, l1, o1, q1, v1⟩, t1, p1, n1, b1⟩, gs, ar, ac, false, ty, hi, mi⟩ bs[i]! else if bs[i]! = 8 ∨ bs[i]! = 127 then Ech.rub ⟨⟨⟨r1, c1, l1, o1, q1, v1⟩, t1, p1, n1, b1⟩, gs, ar, ac, false, ty, hi, mi⟩ else Ech.giveUp ⟨⟨⟨r1, c1, l1, o1, q1, v1⟩, t1, p1, n1, b1⟩, gs, ar, ac, false, ty, hi, mi⟩ := if_neg (by simp)
        generalize Ech.stroke ⟨⟨⟨r1, c1, l1, o1, q1, v1⟩, t1, p1, n1, b1⟩, gs, ar, ac, false, ty, hi, mi⟩ bs[i]! = y at *
        refine Body.seqJ (γ := Option Addr × Nat × Nat) rfl (fun _ => []) (fun g => EOwn b y (.slice a m c) g.1 g.2.1 g.2.2) (fun _ => True) ?_ ?_
        · by_cases h1 : 32 ≤ bs[i]! ∧ bs[i]! ≤ 126
          · rw [if_pos h1] at hsn
            subst hsn
            refine Body.block ?_
            refine Body.seq ?_
            refine Body.region ?_
            refine Ops.u (Dtu.mv (lk rfl)) rfl ?_
            refine Ops.u (Dtu.geq (lk rfl) (lk rfl)) rfl ?_
            refine Ops.u (Dtu.mv (lk rfl)) rfl ?_
            refine Ops.decP 32 rfl (fun _ => ?_) (fun hn => absurd (by first | omega | assumption | decide) hn)
            refine Ops.gu rfl rfl rfl (Dtu.mv (lk rfl)) rfl ?_
            refine Ops.gu rfl rfl rfl (Dtu.leq (lk rfl) (lk rfl)) rfl ?_
            refine Ops.u (Dtu.pickT (lk rfl) (lk rfl)) rfl ?_
            refine Ops.u (Dtu.asg (lk rfl)) rfl ?_
            refine Ops.nil ?_
            refine Then.next ?_
            refine Body.condP (lk rfl) (fun _ => ?_) (fun hn => absurd (by first | omega | assumption | decide) hn)
            refine Body.region ?_
            refine Ops.u (Dtu.mv (lk rfl)) rfl ?_
            refine Ops.u (Dtu.mv (lk rfl)) rfl ?_
            refine Ops.s (Stp.callOwn [0, 0] rfl rfl Try.call96 (lks rfl) (fun E' le hat => eprint_ok E' b ⟨⟨⟨r1, c1, l1, o1, q1, v1⟩, t1, p1, n1, b1⟩, gs, ar, ac, false, ty, hi, mi⟩ M hok hM a m c p q k bs[i]! hbi) ?_) rfl
            rintro _ _ ⟨z1, z2, z3, rfl⟩
            refine Ops.nil ?_
            refine Blk.norm ?_
            refine Joint.goK [0, 0] (z1, z2, z3) rfl rfl rfl trivial rfl rfl trivial
          · rw [if_neg h1] at hsn
            by_cases h2 : bs[i]! = 8 ∨ bs[i]! = 127
            · rw [if_pos h2] at hsn
              subst hsn
              refine Body.block ?_
              refine Body.seq ?_
              refine Body.region ?_
              refine Ops.u (Dtu.mv (lk rfl)) rfl ?_
              refine Ops.u (Dtu.geq (lk rfl) (lk rfl)) rfl ?_
              refine Ops.u (Dtu.mv (lk rfl)) rfl ?_
              refine Ops.decP 32 rfl (fun c32 => ?_) (fun c32 => ?_)
              · refine Ops.gu rfl rfl rfl (Dtu.mv (lk rfl)) rfl ?_
                refine Ops.gu rfl rfl rfl (Dtu.leq (lk rfl) (lk rfl)) rfl ?_
                refine Ops.u (Dtu.pickT (lk rfl) (lk rfl)) rfl ?_
                refine Ops.u (Dtu.asg (lk rfl)) rfl ?_
                refine Ops.nil ?_
                refine Then.next ?_
                refine Body.condP (lk rfl) (fun hy => absurd hy (by first | omega | assumption | decide)) (fun _ => ?_)
                refine Body.seq ?_
                refine Body.region ?_
                refine Ops.u (Dtu.mv (lk rfl)) rfl ?_
                refine Ops.u (Dtu.eql (lk rfl) (lk rfl)) rfl ?_
                refine Ops.u (Dtu.mv (lk rfl)) rfl ?_
                refine Ops.decP 42 rfl (fun hy => absurd hy (by first | omega | assumption | decide)) (fun _ => ?_)
                refine Ops.gu rfl rfl rfl (Dtu.mv (lk rfl)) rfl ?_
                refine Ops.gu rfl rfl rfl (Dtu.eql (lk rfl) (lk rfl)) rfl ?_
                refine Ops.u (Dtu.pickF (lk rfl) (lk rfl)) rfl ?_
                refine Ops.u (Dtu.asg (lk rfl)) rfl ?_
                refine Ops.nil ?_
                refine Then.next ?_
                refine Body.condP (lk rfl) (fun _ => ?_) (fun hn => absurd (by first | omega | assumption | decide) hn)
                refine Body.region ?_
                refine Ops.u (Dtu.mv (lk rfl)) rfl ?_
                refine Ops.s (Stp.callOwn [0, 0] rfl rfl Try.call97 (lks rfl) (fun E' le hat => erub_ok E' b ⟨⟨⟨r1, c1, l1, o1, q1, v1⟩, t1, p1, n1, b1⟩, gs, ar, ac, false, ty, hi, mi⟩ M hok hM a m c p q k) ?_) rfl
                rintro _ _ ⟨z1, z2, z3, rfl⟩
                refine Ops.nil ?_
                refine Blk.norm ?_
                refine Joint.goK [0, 0] (z1, z2, z3) rfl rfl rfl trivial rfl rfl trivial
              · refine Ops.gn rfl rfl rfl rfl rfl ?_
                refine Ops.gn rfl rfl rfl rfl rfl ?_
                refine Ops.u (Dtu.pickF (lk rfl) (lk rfl)) rfl ?_
                refine Ops.u (Dtu.asg (lk rfl)) rfl ?_
                refine Ops.nil ?_
                refine Then.next ?_
                refine Body.condF (lk rfl) ?_
                refine Body.seq ?_
                refine Body.region ?_
                refine Ops.u (Dtu.mv (lk rfl)) rfl ?_
                refine Ops.u (Dtu.eql (lk rfl) (lk rfl)) rfl ?_
                refine Ops.u (Dtu.mv (lk rfl)) rfl ?_
                refine Ops.decP 42 rfl (fun _ => ?_) (fun hn => absurd (by first | omega | assumption | decide) hn)
                refine Ops.gn rfl rfl rfl rfl rfl ?_
                refine Ops.gn rfl rfl rfl rfl rfl ?_
                refine Ops.u (Dtu.pickT (lk rfl) (lk rfl)) rfl ?_
                refine Ops.u (Dtu.asg (lk rfl)) rfl ?_
                refine Ops.nil ?_
                refine Then.next ?_
                refine Body.condT (lk rfl) ?_
                refine Body.region ?_
                refine Ops.u (Dtu.mv (lk rfl)) rfl ?_
                refine Ops.s (Stp.callOwn [0, 0] rfl rfl Try.call97 (lks rfl) (fun E' le hat => erub_ok E' b ⟨⟨⟨r1, c1, l1, o1, q1, v1⟩, t1, p1, n1, b1⟩, gs, ar, ac, false, ty, hi, mi⟩ M hok hM a m c p q k) ?_) rfl
                rintro _ _ ⟨z1, z2, z3, rfl⟩
                refine Ops.nil ?_
                refine Blk.norm ?_
                refine Joint.goK [0, 0] (z1, z2, z3) rfl rfl rfl trivial rfl rfl trivial
            · rw [if_neg h2] at hsn
              subst hsn
              refine Body.block ?_
              refine Body.seq ?_
              refine Body.region ?_
              refine Ops.u (Dtu.mv (lk rfl)) rfl ?_
              refine Ops.u (Dtu.geq (lk rfl) (lk rfl)) rfl ?_
              refine Ops.u (Dtu.mv (lk rfl)) rfl ?_
              refine Ops.decP 32 rfl (fun c32 => ?_) (fun c32 => ?_)
              · refine Ops.gu rfl rfl rfl (Dtu.mv (lk rfl)) rfl ?_
                refine Ops.gu rfl rfl rfl (Dtu.leq (lk rfl) (lk rfl)) rfl ?_
                refine Ops.u (Dtu.pickT (lk rfl) (lk rfl)) rfl ?_
                refine Ops.u (Dtu.asg (lk rfl)) rfl ?_
                refine Ops.nil ?_
                refine Then.next ?_
                refine Body.condP (lk rfl) (fun hy => absurd hy (by first | omega | assumption | decide)) (fun _ => ?_)
                refine Body.seq ?_
                refine Body.region ?_
                refine Ops.u (Dtu.mv (lk rfl)) rfl ?_
                refine Ops.u (Dtu.eql (lk rfl) (lk rfl)) rfl ?_
                refine Ops.u (Dtu.mv (lk rfl)) rfl ?_
                refine Ops.decP 42 rfl (fun hy => absurd hy (by first | omega | assumption | decide)) (fun _ => ?_)
                refine Ops.gu rfl rfl rfl (Dtu.mv (lk rfl)) rfl ?_
                refine Ops.gu rfl rfl rfl (Dtu.eql (lk rfl) (lk rfl)) rfl ?_
                refine Ops.u (Dtu.pickF (lk rfl) (lk rfl)) rfl ?_
                refine Ops.u (Dtu.asg (lk rfl)) rfl ?_
                refine Ops.nil ?_
                refine Then.next ?_
                refine Body.condP (lk rfl) (fun hy => absurd hy (by first | omega | assumption | decide)) (fun _ => ?_)
                refine Body.region ?_
                refine Ops.u (Dtu.mv (lk rfl)) rfl ?_
                refine Ops.s (Stp.callOwn [0] rfl rfl Try.call98 (lks rfl) (fun E' le hat => egiveUp_ok E' _ ⟨⟨⟨_, _, _, _, _, _⟩, _, _, _, _⟩, _, _, _, _, _, _, _⟩ _ _ _ _ _ _) ?_) rfl
                rintro _ _ rfl
                refine Ops.nil ?_
                refine Blk.norm ?_
                (exact Joint.goW (none, 0, 0) rfl rfl rfl trivial (fun w s => pkN [0] 4 rfl w s) trivial)
              · refine Ops.gn rfl rfl rfl rfl rfl ?_
                refine Ops.gn rfl rfl rfl rfl rfl ?_
                refine Ops.u (Dtu.pickF (lk rfl) (lk rfl)) rfl ?_
                refine Ops.u (Dtu.asg (lk rfl)) rfl ?_
                refine Ops.nil ?_
                refine Then.next ?_
                refine Body.condF (lk rfl) ?_
                refine Body.seq ?_
                refine Body.region ?_
                refine Ops.u (Dtu.mv (lk rfl)) rfl ?_
                refine Ops.u (Dtu.eql (lk rfl) (lk rfl)) rfl ?_
                refine Ops.u (Dtu.mv (lk rfl)) rfl ?_
                refine Ops.decP 42 rfl (fun hy => absurd hy (by first | omega | assumption | decide)) (fun _ => ?_)
                refine Ops.gu rfl rfl rfl (Dtu.mv (lk rfl)) rfl ?_
                refine Ops.gu rfl rfl rfl (Dtu.eql (lk rfl) (lk rfl)) rfl ?_
                refine Ops.u (Dtu.pickF (lk rfl) (lk rfl)) rfl ?_
                refine Ops.u (Dtu.asg (lk rfl)) rfl ?_
                refine Ops.nil ?_
                refine Then.next ?_
                refine Body.condP (lk rfl) (fun hy => absurd hy (by first | omega | assumption | decide)) (fun _ => ?_)
                refine Body.region ?_
                refine Ops.u (Dtu.mv (lk rfl)) rfl ?_
                refine Ops.s (Stp.callOwn [0] rfl rfl Try.call98 (lks rfl) (fun E' le hat => egiveUp_ok E' _ ⟨⟨⟨_, _, _, _, _, _⟩, _, _, _, _⟩, _, _, _, _, _, _, _⟩ _ _ _ _ _ _) ?_) rfl
                rintro _ _ rfl
                refine Ops.nil ?_
                refine Blk.norm ?_
                (exact Joint.goW (none, 0, 0) rfl rfl rfl trivial (fun w s => pkN [0] 4 rfl w s) trivial)
        · rintro ⟨z1, z2, z3⟩ u2 _
          dsimp only
          have hty2 := hs0.ty
          clear hsn
          obtain ⟨⟨⟨r2, c2, l2, o2, q2, v2⟩, t2, p2, n2, b2⟩, gs2, ar2, ac2, qt2, ty2, hi2, mi2⟩ := y
          dsimp only at hty2
          subst hst
          refine Body.region ?_
          refine Ops.u (Dtu.mv (lk rfl)) rfl ?_
          refine Ops.u (Dtu.nilck (lk rfl)) rfl ?_
          refine Ops.u (Dtu.fld fa156_5 (lk rfl)) rfl ?_
          refine Ops.d (Det.ld Try.isAgg75 (lk rfl) (Rd.ow 0 rfl rfl)) rfl ?_
          refine Ops.u (Dtu.add (lk rfl) (lk rfl) (wu64 (by omega) (by omega))) rfl ?_
          refine Ops.u (Dtu.nilck (lk rfl)) rfl ?_
          refine Ops.u (Dtu.fld fa156_5 (lk rfl)) rfl ?_
          refine Ops.e (Stp.store 0 Try.sizeOf75 (lk rfl) (lk rfl) rfl rfl rfl rfl rfl rfl rfl ?_)
          refine Ops.nil ?_
          refine Blk.norm ?_
          refine Joint.goK [0, 0] (z1, z2, z3) rfl rfl rfl trivial rfl rfl trivial
    · rintro ⟨z1, z2, z3⟩ u2 _
      dsimp only
      refine Body.region ?_
      refine Ops.u (Dtu.add (lk rfl) (lk rfl) (w64 (by omega) (by omega))) rfl ?_
      refine Ops.u (Dtu.mv (lk rfl)) rfl ?_
      refine Ops.nil ?_
      refine Round.goK [0, 0] (i + 1, z1, z2, z3) rfl rfl rfl ⟨int_eq (by simp), trivial⟩ rfl (by rw [hnx2]) (by dsimp only; omega) (by dsimp only; omega)
  · obtain rfl : i = bs.length := by omega
    rw [List.take_length]
    refine Body.seq ?_
    refine Body.region ?_
    refine Ops.u (Dtu.lss (lk rfl) (lk rfl)) rfl ?_
    refine Ops.nil ?_
    refine Then.next ?_
    refine Body.seq ?_
    refine Body.condP (lk rfl) (fun hy => absurd hy (by first | omega | assumption | decide)) (fun _ => ?_)
    refine Body.exit ?_
    refine Then.exit ?_
    refine Round.exit ?_
    refine Blk.here ?_
    refine Then.next ?_
    refine Body.seq ?_
    refine Body.region ?_
    refine Ops.u (Dtu.asg (lk rfl)) rfl ?_
    refine Ops.nil ?_
    refine Then.next ?_
    refine Body.ret ?_
    exact ⟨.inr rfl, _, pk [0, 0] rfl, rfl, p, q, k, rfl⟩
end Go.Proofs.Ytijjjdljdjnbaaa
end
section
/- Guesses: a state is seen. -/
namespace Go.Proofs.Ytijjjdljdjnbaaa
set_option maxRecDepth 100000
set_option linter.unusedVariables false
set_option linter.unusedSimpArgs false
open Go.Sx

/-- slices.Clone at one type -/
theorem cloneG_ok (E : Env) (v : Value) (m : Nat) (vs : List Value) (h : Sl E [] 4 v m vs) (h1 : vs.all (·.oneCell') = true) (hb : m * 32 ≤ 140737488355328) : Does Try.prog 101 #[v] E [] fun r H' => H' = [osl 162 4 r m vs] ∧ IsSl r := by
  refine Does.go (args := [v]) _ _ Try.func101 rfl Try.ntmps101 rfl rfl ?_
  refine Body.seq ?_
  refine Body.region ?_
  refine Ops.u (Dtu.asg (lk rfl)) rfl ?_
  refine Ops.nil ?_
  refine Then.next ?_
  refine Body.seq ?_
  refine Body.seq ?_
  refine Body.region ?_
  refine Ops.u (Dtu.mv (lk rfl)) rfl ?_
  refine Ops.u (Dtu.nilS Try.underlying102 (Sl.up h) (lk rfl)) rfl ?_
  refine Ops.nil ?_
  refine Then.next ?_
  refine Body.cond (lk rfl) (fun c4 => ?_) (fun c4 => ?_)
  · refine Body.pure (h.nil0 c4) ?_
    rintro ⟨rfl, rfl⟩
    refine Body.seq ?_
    refine Body.region ?_
    refine Ops.u (Dtu.asg (lk rfl)) rfl ?_
    refine Ops.nil ?_
    refine Then.next ?_
    refine Body.ret ?_
    refine Then.ret ?_
    exact ⟨.inr rfl, _, fun w s => osl_nil (pk [] rfl w s), rfl, ⟨_, _, _, rfl⟩⟩
  · refine Body.pure h.len ?_
    rintro ⟨hl, hm⟩
    refine Body.skip ?_
    refine Then.next ?_
    refine Body.seq ?_
    refine Body.region ?_
    refine Ops.s (Stp.buildSlice0 Try.underlying102 ty162 (fun b5 => ?_)) rfl
    refine Ops.u (Dtu.mv (lk rfl)) rfl ?_
    refine Ops.s (Stp.appendNew Try.underlying102 ty162 rfl (lk rfl) (lk rfl) h.up h1 hb hm (fun v7 => ?_)) rfl
    refine Ops.pure (Sl.isSl (Sl.osl 0 rfl)) fun hsl => ?_
    refine Ops.u (Dtu.asg (lk rfl)) rfl ?_
    refine Ops.nil ?_
    refine Then.next ?_
    refine Body.ret ?_
    exact ⟨.inr rfl, _, pk [0] rfl, rfl, hsl⟩

/-- what an echo owns, the cells that it has seen with it -/
abbrev EOwn3 (b : Nat) (e : Ech) (a : Option Addr) (m c : Nat) (p : Option Addr) (q k : Nat) : List HProp := [own b (e.cells (.slice a m c) (.slice p q k)) 156, vsl 4 (.slice p q k) e.gs.length (e.gs.flatMap Gue.enc), osl 55 4 (.slice a m c) e.seen.v.cells.length (e.seen.v.cells.flatMap Cell.enc)]
theorem eright_ok (E : Env) (b : Nat) (e : Ech) (hf : (1 ≤ e.seen.v.rows ∧ e.seen.v.rows ≤ 12 ∧ 1 ≤ e.seen.v.cols ∧ e.seen.v.cols ≤ 40) ∧ (e.seen.v.cells.length : Int) = e.seen.v.rows * e.seen.v.cols) (a : Option Addr) (m c : Nat) (p : Option Addr) (q k : Nat) (g : Gue) : Does Try.prog 100 #[.pointer (some ⟨b, 0, none⟩), .agg g.enc.toArray] E (EOwn3 b e a m c p q k) fun r H' => r = .bool (e.right g) ∧ H' = EOwn3 b e a m c p q k := by
  obtain ⟨hrc, hlen⟩ := hf
  unfold Ech.right
  obtain ⟨⟨⟨r1, c1, l1, o1, q1, v1⟩, t1, p1, n1, b1⟩, gs, ar, ac, qt, ty, hi, mi⟩ := e
  dsimp only [EOwn3] at hrc hlen ⊢
  refine Does.go (args := [.pointer (some ⟨b, 0, none⟩), .agg g.enc.toArray]) _ _ Try.func100 rfl Try.ntmps100 rfl rfl ?_
  by_cases hi0 : 0 ≤ indexV r1 c1 g.row g.col
  · have hlt := indexV_lt hi0
    obtain ⟨j, hj⟩ := Int.eq_ofNat_of_zero_le hi0
    refine Body.seq ?_
    refine Body.region ?_
    refine Ops.s (Stp.box (lk rfl) rfl (fun b3 => ?_)) rfl
    refine Ops.u (Dtu.asg (lk rfl)) rfl ?_
    refine Ops.nil ?_
    refine Then.next ?_
    refine Body.seq ?_
    refine Body.draw mixed ?_
    refine AB.u 0 rfl (by decide +kernel) (Dtu.mv (lk rfl)) rfl ?_
    refine AB.u 1 rfl (by decide +kernel) (Dtu.nilck (lk rfl)) rfl ?_
    refine AB.u 2 rfl (by decide +kernel) (Dtu.fld fa156_1 (lk rfl)) rfl ?_
    refine AB.u 3 rfl (by decide +kernel) (Dtu.fld fa77_0 (lk rfl)) rfl ?_
    refine AB.d 4 rfl (by decide +kernel) rfl (Det.lda Try.isAgg24 Try.sizeOf24 (lk rfl) (Rds.ow (m := 6) 1 rfl rfl) rfl) rfl ?_
    refine AB.u 5 rfl (by decide +kernel) (Dtu.fld fa162_1 (lk rfl)) rfl ?_
    refine AB.d 6 rfl (by decide +kernel) rfl (Det.ld Try.isAgg3 (lk rfl) (Rd.ow 0 rfl rfl)) rfl ?_
    refine AB.u 7 rfl (by decide +kernel) (Dtu.fld fa162_2 (lk rfl)) rfl ?_
    refine AB.d 8 rfl (by decide +kernel) rfl (Det.ld Try.isAgg3 (lk rfl) (Rd.ow 0 rfl rfl)) rfl ?_
    refine AB.s 9 rfl (by decide +kernel) (by decide +kernel) (Stp.call rfl Try.call102 (lks rfl) (fun E' le hat => eindex_ok E' _ _ _ _ _ _ _ _ _ _ (by omega)) ?_) rfl
    rintro _ _ ⟨rfl, rfl⟩
    refine AB.u 10 rfl (by decide +kernel) (Dtu.asg (lk rfl)) rfl ?_
    refine AB.done (by decide +kernel) ?_
    refine Then.next ?_
    refine Body.seq ?_
    refine Body.draw mixed ?_
    refine AB.u 0 rfl (by decide +kernel) (Dtu.mv (lk rfl)) rfl ?_
    refine AB.u 1 rfl (by decide +kernel) (Dtu.geq (lk rfl) (lk rfl)) rfl ?_
    refine AB.u 2 rfl (by decide +kernel) (Dtu.mv (lk rfl)) rfl ?_
    refine AB.decP 18 rfl (fun _ => ?_) (fun hn => absurd (by first | omega | assumption | decide) hn)
    refine AB.gu 3 rfl (by decide +kernel) rfl rfl rfl (Dtu.mv (lk rfl)) rfl ?_
    refine AB.gu 4 rfl (by decide +kernel) rfl rfl rfl (Dtu.nilck (lk rfl)) rfl ?_
    refine AB.gu 5 rfl (by decide +kernel) rfl rfl rfl (Dtu.fld fa156_1 (lk rfl)) rfl ?_
    refine AB.gu 6 rfl (by decide +kernel) rfl rfl rfl (Dtu.fld fa77_0 (lk rfl)) rfl ?_
    refine AB.gu 7 rfl (by decide +kernel) rfl rfl rfl (Dtu.fld fa24_2 (lk rfl)) rfl ?_
    refine AB.gd 8 rfl (by decide +kernel) rfl rfl rfl rfl (Det.ld Try.isAgg22 (lk rfl) (Rd.ow 1 rfl rfl)) rfl ?_
    refine AB.gu 9 rfl (by decide +kernel) rfl rfl rfl (Dtu.mv (lk rfl)) rfl ?_
    refine AB.gu 10 rfl (by decide +kernel) rfl rfl rfl (Dtu.ix (i := ((indexV r1 c1 g.row g.col).toNat)) Try.underlying22 Try.sizeOf55 (Sl.osl 3 rfl) (lk rfl) (lk rfl) (by omega) (by omega)) rfl ?_
    refine AB.gu 11 rfl (by decide +kernel) rfl rfl rfl (Dtu.fld fa55_0 (lk rfl)) rfl ?_
    refine AB.gd 12 rfl (by decide +kernel) rfl rfl rfl rfl (Det.ld Try.isAgg21 (lk rfl) (Rd.sl2 (Sl.osl 3 rfl) (gfe (sz := 4) (fun _ => rfl) (by omega) rfl))) rfl ?_
    refine AB.gu 13 rfl (by decide +kernel) rfl rfl rfl (Dtu.fld fa162_3 (lk rfl)) rfl ?_
    refine AB.gd 14 rfl (by decide +kernel) rfl rfl rfl rfl (Det.ld Try.isAgg21 (lk rfl) (Rd.ow 0 rfl rfl)) rfl ?_
    refine AB.gu 15 rfl (by decide +kernel) rfl rfl rfl (Dtu.eql (lk rfl) (lk rfl)) rfl ?_
    refine AB.u 16 rfl (by decide +kernel) (Dtu.pickT (lk rfl) (lk rfl)) rfl ?_
    refine AB.u 17 rfl (by decide +kernel) (Dtu.asg (lk rfl)) rfl ?_
    refine AB.done (by decide +kernel) ?_
    refine Then.next ?_
    refine Body.ret ?_
    exact ⟨.inr rfl, _, pk [1, 1, 1] rfl, (by show Value.bool _ = Value.bool _; rw [decide_eq_true hi0, Bool.true_and]), rfl⟩
  · refine Body.seq ?_
    refine Body.region ?_
    refine Ops.s (Stp.box (lk rfl) rfl (fun b3 => ?_)) rfl
    refine Ops.u (Dtu.asg (lk rfl)) rfl ?_
    refine Ops.nil ?_
    refine Then.next ?_
    refine Body.seq ?_
    refine Body.draw mixed ?_
    refine AB.u 0 rfl (by decide +kernel) (Dtu.mv (lk rfl)) rfl ?_
    refine AB.u 1 rfl (by decide +kernel) (Dtu.nilck (lk rfl)) rfl ?_
    refine AB.u 2 rfl (by decide +kernel) (Dtu.fld fa156_1 (lk rfl)) rfl ?_
    refine AB.u 3 rfl (by decide +kernel) (Dtu.fld fa77_0 (lk rfl)) rfl ?_
    refine AB.d 4 rfl (by decide +kernel) rfl (Det.lda Try.isAgg24 Try.sizeOf24 (lk rfl) (Rds.ow (m := 6) 1 rfl rfl) rfl) rfl ?_
    refine AB.u 5 rfl (by decide +kernel) (Dtu.fld fa162_1 (lk rfl)) rfl ?_
    refine AB.d 6 rfl (by decide +kernel) rfl (Det.ld Try.isAgg3 (lk rfl) (Rd.ow 0 rfl rfl)) rfl ?_
    refine AB.u 7 rfl (by decide +kernel) (Dtu.fld fa162_2 (lk rfl)) rfl ?_
    refine AB.d 8 rfl (by decide +kernel) rfl (Det.ld Try.isAgg3 (lk rfl) (Rd.ow 0 rfl rfl)) rfl ?_
    refine AB.s 9 rfl (by decide +kernel) (by decide +kernel) (Stp.call rfl Try.call102 (lks rfl) (fun E' le hat => eindex_ok E' _ _ _ _ _ _ _ _ _ _ (by omega)) ?_) rfl
    rintro _ _ ⟨rfl, rfl⟩
    refine AB.u 10 rfl (by decide +kernel) (Dtu.asg (lk rfl)) rfl ?_
    refine AB.done (by decide +kernel) ?_
    refine Then.next ?_
    refine Body.seq ?_
    refine Body.draw mixed ?_
    refine AB.u 0 rfl (by decide +kernel) (Dtu.mv (lk rfl)) rfl ?_
    refine AB.u 1 rfl (by decide +kernel) (Dtu.geq (lk rfl) (lk rfl)) rfl ?_
    refine AB.u 2 rfl (by decide +kernel) (Dtu.mv (lk rfl)) rfl ?_
    refine AB.decP 18 rfl (fun hy => absurd hy (by first | omega | assumption | decide)) (fun _ => ?_)
    refine AB.gn 3 rfl (by decide +kernel) rfl rfl rfl rfl rfl ?_
    refine AB.gn 4 rfl (by decide +kernel) rfl rfl rfl rfl rfl ?_
    refine AB.gn 5 rfl (by decide +kernel) rfl rfl rfl rfl rfl ?_
    refine AB.gn 6 rfl (by decide +kernel) rfl rfl rfl rfl rfl ?_
    refine AB.gn 7 rfl (by decide +kernel) rfl rfl rfl rfl rfl ?_
    refine AB.gn 8 rfl (by decide +kernel) rfl rfl rfl rfl rfl ?_
    refine AB.gn 9 rfl (by decide +kernel) rfl rfl rfl rfl rfl ?_
    refine AB.gn 10 rfl (by decide +kernel) rfl rfl rfl rfl rfl ?_
    refine AB.gn 11 rfl (by decide +kernel) rfl rfl rfl rfl rfl ?_
    refine AB.gn 12 rfl (by decide +kernel) rfl rfl rfl rfl rfl ?_
    refine AB.gn 13 rfl (by decide +kernel) rfl rfl rfl rfl rfl ?_
    refine AB.gn 14 rfl (by decide +kernel) rfl rfl rfl rfl rfl ?_
    refine AB.gn 15 rfl (by decide +kernel) rfl rfl rfl rfl rfl ?_
    refine AB.u 16 rfl (by decide +kernel) (Dtu.pickF (lk rfl) (lk rfl)) rfl ?_
    refine AB.u 17 rfl (by decide +kernel) (Dtu.asg (lk rfl)) rfl ?_
    refine AB.done (by decide +kernel) ?_
    refine Then.next ?_
    refine Body.ret ?_
    exact ⟨.inr rfl, _, pk [1, 1, 1] rfl, (by show Value.bool _ = Value.bool _; rw [decide_eq_false hi0, Bool.false_and]), rfl⟩
theorem esee_no (E : Env) (b : Nat) (e : Ech) (a : Option Addr) (m c : Nat) (p : Option Addr) (q k : Nat) (s : Stt) (v : Value) (took : Int) (hs : s.v.has E [] v) (hk : s.ok = false) :
    Does Try.prog 53 #[.pointer (some ⟨b, 0, none⟩), s.val v, .int .u64 took] E (EOwn3 b e a m c p q k) fun r H' => r = .int .i64 3 ∧ H' = EOwn3 b e a m c p q k := by
  unfold View.has at hs
  refine Does.pure (Sl.isSl (Sl.up hs)) fun hsl => ?_
  obtain ⟨sa, sm, sc, rfl⟩ := hsl
  have hR := fun (E' : Env) (le : Env.Le E E') => sright_ok E' s (.slice sa sm sc) (Sl.mono hs le)
  rw [hk] at hR
  obtain ⟨⟨⟨r1, c1, l1, o1, q1, v1⟩, t1, p1, n1, b1⟩, gs, ar, ac, qt, ty, hi, mi⟩ := e
  dsimp only [EOwn3]
  refine Does.go (args := [.pointer (some ⟨b, 0, none⟩), s.val (.slice sa sm sc), .int .u64 took]) _ _ Try.func53 rfl Try.ntmps53 rfl rfl ?_
  refine Body.seq ?_
  refine Body.region ?_
  refine Ops.s (Stp.box (lk rfl) rfl (fun b4 => ?_)) rfl
  refine Ops.u (Dtu.asg (lk rfl)) rfl ?_
  refine Ops.nil ?_
  refine Then.next ?_
  refine Body.scope ?_
  refine Body.seq ?_
  refine Body.block ?_
  refine Body.seq ?_
  refine Body.region ?_
  refine Ops.u (Dtu.mv (lk rfl)) rfl ?_
  refine Ops.s (Stp.callOwn [1] rfl rfl Try.call95 (lks rfl) (fun E' le hat => eis_ok E' _ ⟨⟨⟨_, _, _, _, _, _⟩, _, _, _, _⟩, _, _, _, _, _, _, _⟩ _ _) ?_) rfl
  rintro _ _ ⟨rfl, rfl⟩
  refine Ops.u (Dtu.not (lk rfl)) rfl ?_
  refine Ops.u (Dtu.asg (lk rfl)) rfl ?_
  refine Ops.nil ?_
  refine Then.next ?_
  refine Body.condF (lk rfl) ?_
  refine Body.seq ?_
  refine Body.region ?_
  refine Ops.d (Det.lda Try.isAgg77 Try.sizeOf77 (lk rfl) (Rds.ow (m := 10) 1 rfl rfl) rfl) rfl ?_
  refine Ops.s (Stp.call rfl Try.call42 (lks rfl) (fun E' le hat => sright_ok E' ⟨⟨_, _, _, _, _, _⟩, _, _, _, _⟩ _ (Sl.mono (by assumption) le)) ?_) rfl
  rintro _ _ ⟨rfl, rfl⟩
  refine Ops.u (Dtu.not (lk rfl)) rfl ?_
  refine Ops.u (Dtu.asg (lk rfl)) rfl ?_
  refine Ops.nil ?_
  refine Then.next ?_
  refine Body.cond (lk rfl) (fun _ => ?_) (fun hn => absurd hn (by first | (rw [hk]; decide) | simp [hk]))
  refine Body.seq ?_
  refine Body.region ?_
  refine Ops.u (Dtu.asg (lk rfl)) rfl ?_
  refine Ops.nil ?_
  refine Then.next ?_
  refine Body.ret ?_
  refine Blk.ret ?_
  refine Then.ret ?_
  exact ⟨.inr rfl, _, pk [0, 1, 1] rfl, rfl, rfl⟩
theorem seeL_step {took : Int} {x : Ech} : seeL took x.gs.length x = if 0 < x.gs.length ∧ x.gs[0]!.key < took then (if x.right x.gs[0]! = true then seeL took (x.gs.length - 1) x.true1 else x.miss) else x := by
  cases h : x.gs.length with
  | zero => simp [seeL]
  | succ n => rw [seeL, h]; rfl
set_option maxHeartbeats 3200000 in
theorem esee_ok (E : Env) (b : Nat) (e : Ech) (N : Int) (h : e.Ok N) (hN : N ≤ 1000000) (a : Option Addr) (m c : Nat) (p : Option Addr) (q k : Nat) (s : Stt) (v : Value) (took : Int) (hs : s.v.has E [] v) (hk : s.ok = true) (fs : ∀ c ∈ s.v.cells, c.Fl) :
    Does Try.prog 53 #[.pointer (some ⟨b, 0, none⟩), s.val v, .int .u64 took] E (EOwn3 b e a m c p q k) fun r H' => r = .int .i64 0 ∧ ∃ (a' : Option Addr) (m' c' : Nat) (p' : Option Addr) (q' k' : Nat), H' = EOwn3 b (e.see s took) a' m' c' p' q' k' := by
  unfold View.has at hs
  refine Does.pure (Sl.isSl (Sl.up hs)) fun hsl => ?_
  obtain ⟨sa, sm, sc, rfl⟩ := hsl
  have hR := fun (E' : Env) (le : Env.Le E E') => sright_ok E' s (.slice sa sm sc) (Sl.mono hs le)
  rw [hk] at hR
  have hfit := (View.ok_fits (Stt.ok_fits hk).1).1
  have h480 := ok_480 (Stt.ok_fits hk).1
  have hn := h.n
  have hg := h.g
  have hhi := h.hi
  have hmi := h.mi
  unfold Ech.see
  obtain ⟨X, hX0⟩ : ∃ X, seeL took e.gs.length (e.look s) = X := ⟨_, rfl⟩
  rw [hX0]
  have hXs : X.seen = s := by rw [← hX0]; exact seeL_seen _ _
  obtain ⟨⟨⟨r1, c1, l1, o1, q1, v1⟩, t1, p1, n1, b1⟩, gs, ar, ac, qt, ty, hi, mi⟩ := e
  obtain ⟨⟨sr, sk, sl, so, sq, sv⟩, st, sp, sn, sb⟩ := s
  dsimp only [EOwn3, Ech.look] at hs h480 hfit hn hg hhi hmi hX0 ⊢
  refine Does.go (args := [.pointer (some ⟨b, 0, none⟩), .agg (List.toArray [.int .i64 sr, .int .i64 sk, .slice sa sm sc, .int .i64 so, .int .i64 sq, .bool sv, .string st, .string sp, .int .u64 sn, .int .u64 sb]), .int .u64 took]) _ _ Try.func53 rfl Try.ntmps53 rfl rfl ?_
  refine Body.seq ?_
  refine Body.region ?_
  refine Ops.s (Stp.box (lk rfl) rfl (fun b4 => ?_)) rfl
  refine Ops.u (Dtu.asg (lk rfl)) rfl ?_
  refine Ops.nil ?_
  refine Then.next ?_
  refine Body.scope ?_
  refine Body.seq ?_
  refine Body.block ?_
  refine Body.seq ?_
  refine Body.region ?_
  refine Ops.u (Dtu.mv (lk rfl)) rfl ?_
  refine Ops.s (Stp.callOwn [1] rfl rfl Try.call95 (lks rfl) (fun E' le hat => eis_ok E' _ ⟨⟨⟨_, _, _, _, _, _⟩, _, _, _, _⟩, _, _, _, _, _, _, _⟩ _ _) ?_) rfl
  rintro _ _ ⟨rfl, rfl⟩
  refine Ops.u (Dtu.not (lk rfl)) rfl ?_
  refine Ops.u (Dtu.asg (lk rfl)) rfl ?_
  refine Ops.nil ?_
  refine Then.next ?_
  refine Body.condF (lk rfl) ?_
  refine Body.seq ?_
  refine Body.region ?_
  refine Ops.d (Det.lda Try.isAgg77 Try.sizeOf77 (lk rfl) (Rds.ow (m := 10) 1 rfl rfl) rfl) rfl ?_
  refine Ops.s (Stp.call rfl Try.call42 (lks rfl) (fun E' le hat => sright_ok E' ⟨⟨_, _, _, _, _, _⟩, _, _, _, _⟩ _ (Sl.mono (by assumption) le)) ?_) rfl
  rintro _ _ ⟨rfl, rfl⟩
  refine Ops.u (Dtu.not (lk rfl)) rfl ?_
  refine Ops.u (Dtu.asg (lk rfl)) rfl ?_
  refine Ops.nil ?_
  refine Then.next ?_
  refine Body.cond (lk rfl) (fun hn => absurd hn (by first | (rw [hk]; decide) | simp [hk])) (fun _ => ?_)
  refine Body.skip ?_
  refine Blk.norm ?_
  refine Then.next ?_
  refine Body.seq ?_
  refine Body.region ?_
  refine Ops.u (Dtu.fld fa77_0 (lk rfl)) rfl ?_
  refine Ops.u (Dtu.fld fa24_2 (lk rfl)) rfl ?_
  refine Ops.d (Det.ld Try.isAgg22 (lk rfl) (Rd.ow 1 rfl rfl)) rfl ?_
  refine Ops.s (Stp.call rfl Try.call99 (lks rfl) (fun E' le hat => cloneC_ok E' _ _ _ (Sl.mono (by assumption) le) (all_flat enc_one _) (by omega)) ?_) rfl
  rintro _ _ ⟨rfl, za18, zm18, zc18, rfl⟩
  refine Ops.u (Dtu.fld fa77_0 (lk rfl)) rfl ?_
  refine Ops.u (Dtu.fld fa24_2 (lk rfl)) rfl ?_
  refine Ops.e (Stp.store 2 Try.sizeOf22 (lk rfl) (lk rfl) rfl rfl rfl rfl rfl rfl rfl ?_)
  refine Ops.nil ?_
  refine Then.next ?_
  refine Body.seq ?_
  refine Body.region ?_
  refine Ops.u (Dtu.mv (lk rfl)) rfl ?_
  refine Ops.d (Det.lda Try.isAgg77 Try.sizeOf77 (lk rfl) (Rds.ow (m := 10) 2 rfl rfl) rfl) rfl ?_
  refine Ops.u (Dtu.nilck (lk rfl)) rfl ?_
  refine Ops.u (Dtu.fld fa156_1 (lk rfl)) rfl ?_
  refine Ops.e (Stp.store 1 Try.sizeOf77 (lk rfl) (lk rfl) rfl rfl rfl rfl rfl rfl rfl ?_)
  refine Ops.nil ?_
  refine Then.next ?_
  refine Body.seq ?_
  refine Body.label ?_
  refine Then.next ?_
  refine Body.seqJ (γ := Option Addr × Nat × Nat) rfl (fun _ => []) (fun g => [own b (X.cells (.slice za18 zm18 zc18) (.slice g.1 g.2.1 g.2.2)) 156, vsl 4 (.slice g.1 g.2.1 g.2.2) X.gs.length (X.gs.flatMap Gue.enc), osl 55 4 (.slice za18 zm18 zc18) sl.length (sl.flatMap Cell.enc)]) (fun _ => True) ?_ ?_
  · refine Body.block ?_
    refine Body.conseq (pk [1, 2, 0] rfl) ?_
    refine Body.loopF (γ := List Gue × Int × Option Addr × Nat × Nat) rfl (fun _ => []) (fun g => [own b (Ech.cells ⟨⟨⟨sr, sk, sl, so, sq, sv⟩, st, sp, sn, sb⟩, g.1, ar, ac, qt, ty, g.2.1, mi⟩ (.slice za18 zm18 zc18) (.slice g.2.2.1 g.2.2.2.1 g.2.2.2.2)) 156, vsl 4 (.slice g.2.2.1 g.2.2.2.1 g.2.2.2.2) g.1.length (g.1.flatMap Gue.enc), osl 55 4 (.slice za18 zm18 zc18) sl.length (sl.flatMap Cell.enc)])
      (fun g => seeL took g.1.length ⟨⟨⟨sr, sk, sl, so, sq, sv⟩, st, sp, sn, sb⟩, g.1, ar, ac, qt, ty, g.2.1, mi⟩ = X ∧ g.1.length ≤ 64 ∧ (∀ z ∈ g.1, z.Ok) ∧ 0 ≤ g.2.1 ∧ g.2.1 + g.1.length ≤ N + 64) (fun g => g.1.length) (gs, hi, p, q, k) ⟨hX0, hn, hg, hhi.1, by dsimp only; omega⟩ trivial rfl ?_
    rintro ⟨gs, hi, p, q, k⟩ u ⟨fX, fn, fg, f0, f1⟩
    dsimp only at fX fn fg f0 f1 ⊢
    have hst := seeL_step (took := took) (x := ⟨⟨⟨sr, sk, sl, so, sq, sv⟩, st, sp, sn, sb⟩, gs, ar, ac, qt, ty, hi, mi⟩)
    dsimp only at hst
    rw [fX] at hst
    by_cases h0 : 0 < gs.length
    · have hg0 : gs[0]! ∈ gs := by rw [getElem!_pos gs 0 h0]; exact List.getElem_mem _
      have hgo := fg _ hg0
      by_cases h1 : gs[0]!.key < took
      · rw [if_pos ⟨h0, h1⟩] at hst
        have hrt : ∀ (E' : Env), Does Try.prog 100 #[.pointer (some ⟨b, 0, none⟩), .agg gs[0]!.enc.toArray] E' [own b (Ech.cells ⟨⟨⟨sr, sk, sl, so, sq, sv⟩, st, sp, sn, sb⟩, gs, ar, ac, qt, ty, hi, mi⟩ (.slice za18 zm18 zc18) (.slice p q k)) 156, vsl 4 (.slice p q k) gs.length (gs.flatMap Gue.enc), osl 55 4 (.slice za18 zm18 zc18) sl.length (sl.flatMap Cell.enc)] fun r H' => r = .bool (Ech.right ⟨⟨⟨sr, sk, sl, so, sq, sv⟩, st, sp, sn, sb⟩, gs, ar, ac, qt, ty, hi, mi⟩ gs[0]!) ∧ H' = [own b (Ech.cells ⟨⟨⟨sr, sk, sl, so, sq, sv⟩, st, sp, sn, sb⟩, gs, ar, ac, qt, ty, hi, mi⟩ (.slice za18 zm18 zc18) (.slice p q k)) 156, vsl 4 (.slice p q k) gs.length (gs.flatMap Gue.enc), osl 55 4 (.slice za18 zm18 zc18) sl.length (sl.flatMap Cell.enc)] := fun E' => eright_ok E' b ⟨⟨⟨sr, sk, sl, so, sq, sv⟩, st, sp, sn, sb⟩, gs, ar, ac, qt, ty, hi, mi⟩ ⟨hfit.1, hfit.2.2.2.2.2⟩ za18 zm18 zc18 p q k gs[0]!
        cases hr : Ech.right ⟨⟨⟨sr, sk, sl, so, sq, sv⟩, st, sp, sn, sb⟩, gs, ar, ac, qt, ty, hi, mi⟩ gs[0]! with
        | true =>
          rw [hr, if_pos rfl] at hst
          rw [hr] at hrt
          have hcl : ∀ E', At (vsl 4 (.slice p q k) gs.length (gs.flatMap Gue.enc)) E' → Sl E' [] 4 (subSl (.slice p q k) 4 1 gs.length (capOf (.slice p q k))) (gs.length - 1) ((gs.drop 1).flatMap Gue.enc) := fun E' hA => by
            have := Sl.subF (enc := Gue.enc) (fun _ => rfl) (Sl.atV hA) 1 gs.length (by omega) (Nat.le_refl _)
            rwa [List.take_of_length_le (by simp)] at this
          refine Body.seq ?_
          refine Body.seq ?_
          refine Body.region ?_
          refine Ops.u (Dtu.mv (lk rfl)) rfl ?_
          refine Ops.u (Dtu.nilck (lk rfl)) rfl ?_
          refine Ops.u (Dtu.fld fa156_2 (lk rfl)) rfl ?_
          refine Ops.d (Det.ld Try.isAgg102 (lk rfl) (Rd.ow 0 rfl rfl)) rfl ?_
          refine Ops.u (Dtu.lenS Try.underlying102 (Sl.vsl 1 rfl) (lk rfl)) rfl ?_
          refine Ops.u (Dtu.gtr (lk rfl) (lk rfl)) rfl ?_
          refine Ops.u (Dtu.mv (lk rfl)) rfl ?_
          refine Ops.decP 31 rfl (fun _ => ?_) (fun hn => absurd (by first | omega | assumption | decide) hn)
          refine Ops.gu rfl rfl rfl (Dtu.mv (lk rfl)) rfl ?_
          refine Ops.gu rfl rfl rfl (Dtu.nilck (lk rfl)) rfl ?_
          refine Ops.gu rfl rfl rfl (Dtu.fld fa156_2 (lk rfl)) rfl ?_
          refine Ops.gd rfl rfl rfl (Det.ld Try.isAgg102 (lk rfl) (Rd.ow 0 rfl rfl)) rfl ?_
          refine Ops.gu rfl rfl rfl (Dtu.ix (i := 0) Try.underlying102 Try.sizeOf162 (Sl.vsl 1 rfl) (lk rfl) (lk rfl) (by omega) (by omega)) rfl ?_
          refine Ops.gu rfl rfl rfl (Dtu.fld fa162_0 (lk rfl)) rfl ?_
          refine Ops.gd rfl rfl rfl (Det.ld Try.isAgg75 (lk rfl) (Rd.sl2 (Sl.vsl 1 rfl) (gfe (sz := 4) (fun _ => rfl) (by omega) rfl))) rfl ?_
          refine Ops.gu rfl rfl rfl (Dtu.mv (lk rfl)) rfl ?_
          refine Ops.gu rfl rfl rfl (Dtu.lss (lk rfl) (lk rfl)) rfl ?_
          refine Ops.u (Dtu.pickT (lk rfl) (lk rfl)) rfl ?_
          refine Ops.nil ?_
          refine Then.next ?_
          refine Body.condP (lk rfl) (fun _ => ?_) (fun hn => absurd (by first | omega | assumption | decide) hn)
          refine Body.skip ?_
          refine Then.next ?_
          refine Body.block ?_
          refine Body.seq ?_
          refine Body.seq ?_
          refine Body.region ?_
          refine Ops.u (Dtu.mv (lk rfl)) rfl ?_
          refine Ops.u (Dtu.mv (lk rfl)) rfl ?_
          refine Ops.u (Dtu.nilck (lk rfl)) rfl ?_
          refine Ops.u (Dtu.fld fa156_2 (lk rfl)) rfl ?_
          refine Ops.d (Det.ld Try.isAgg102 (lk rfl) (Rd.ow 0 rfl rfl)) rfl ?_
          refine Ops.u (Dtu.ix (i := 0) Try.underlying102 Try.sizeOf162 (Sl.vsl 1 rfl) (lk rfl) (lk rfl) (by omega) (by omega)) rfl ?_
          refine Ops.d (Det.lda Try.isAgg162 Try.sizeOf162 (lk rfl) (Rds.sl (Sl.vsl 1 rfl) (gf (sz := 4) (fun _ => rfl) (by omega))) rfl) rfl ?_
          refine Ops.s (Stp.callOwn [0, 0, 0] rfl rfl Try.call100 (lks rfl) (fun E' le hat => hrt E') ?_) rfl
          rintro _ _ ⟨rfl, rfl⟩
          refine Ops.u (Dtu.not (lk rfl)) rfl ?_
          refine Ops.nil ?_
          refine Then.next ?_
          refine Body.condF (lk rfl) ?_
          refine Body.skip ?_
          refine Then.next ?_
          refine Body.seq ?_
          refine Body.region ?_
          refine Ops.u (Dtu.mv (lk rfl)) rfl ?_
          refine Ops.u (Dtu.nilck (lk rfl)) rfl ?_
          refine Ops.u (Dtu.fld fa156_6 (lk rfl)) rfl ?_
          refine Ops.d (Det.ld Try.isAgg3 (lk rfl) (Rd.ow 0 rfl rfl)) rfl ?_
          refine Ops.u (Dtu.add (lk rfl) (lk rfl) (w64 (by omega) (by omega))) rfl ?_
          refine Ops.u (Dtu.nilck (lk rfl)) rfl ?_
          refine Ops.u (Dtu.fld fa156_6 (lk rfl)) rfl ?_
          refine Ops.e (Stp.store 0 Try.sizeOf3 (lk rfl) (lk rfl) rfl rfl rfl rfl rfl rfl rfl ?_)
          refine Ops.nil ?_
          refine Then.next ?_
          refine Body.region ?_
          refine Ops.u (Dtu.mv (lk rfl)) rfl ?_
          refine Ops.u (Dtu.mv (lk rfl)) rfl ?_
          refine Ops.u (Dtu.nilck (lk rfl)) rfl ?_
          refine Ops.u (Dtu.fld fa156_2 (lk rfl)) rfl ?_
          refine Ops.d (Det.ld Try.isAgg102 (lk rfl) (Rd.ow 0 rfl rfl)) rfl ?_
          refine Ops.u (Dtu.slL 1 Try.underlying102 Try.sizeOf162 (Sl.vsl 1 rfl) (lk rfl) (lk rfl) (by omega) (by omega)) rfl ?_
          refine Ops.s (Stp.call rfl Try.call101 (lks rfl) (fun E' le hat => cloneG_ok E' _ _ _ (hcl E' (hat _ (.tail _ (.head _)))) (all_flat gue_one _) (by omega)) ?_) rfl
          rintro _ _ ⟨rfl, y1, y2, y3, rfl⟩
          refine Ops.u (Dtu.nilck (lk rfl)) rfl ?_
          refine Ops.u (Dtu.fld fa156_2 (lk rfl)) rfl ?_
          refine Ops.e (Stp.store 1 Try.sizeOf102 (lk rfl) (lk rfl) rfl rfl rfl rfl rfl rfl rfl ?_)
          refine Ops.nil ?_
          refine Blk.norm ?_
          refine Round.goW (gs.drop 1, hi + 1, y1, y2, y3) rfl rfl rfl trivial (fun w s => ?_) ⟨?_, by simp; omega, fun z hz => fg z (List.mem_of_mem_drop hz), by dsimp only; omega, by simp; omega⟩ (by simp; omega)
          · have h1 := (pkO [0, 0, 1] rfl w s).perm (List.Perm.cons _ (List.Perm.swap _ _ _))
            dsimp only
            rw [List.length_drop]
            exact h1
          · dsimp only
            rw [List.length_drop]
            exact hst.symm
        | false =>
          rw [hr, if_neg (by simp)] at hst
          rw [hr] at hrt
          subst hst
          refine Body.seq ?_
          refine Body.seq ?_
          refine Body.region ?_
          refine Ops.u (Dtu.mv (lk rfl)) rfl ?_
          refine Ops.u (Dtu.nilck (lk rfl)) rfl ?_
          refine Ops.u (Dtu.fld fa156_2 (lk rfl)) rfl ?_
          refine Ops.d (Det.ld Try.isAgg102 (lk rfl) (Rd.ow 0 rfl rfl)) rfl ?_
          refine Ops.u (Dtu.lenS Try.underlying102 (Sl.vsl 1 rfl) (lk rfl)) rfl ?_
          refine Ops.u (Dtu.gtr (lk rfl) (lk rfl)) rfl ?_
          refine Ops.u (Dtu.mv (lk rfl)) rfl ?_
          refine Ops.decP 31 rfl (fun _ => ?_) (fun hn => absurd (by first | omega | assumption | decide) hn)
          refine Ops.gu rfl rfl rfl (Dtu.mv (lk rfl)) rfl ?_
          refine Ops.gu rfl rfl rfl (Dtu.nilck (lk rfl)) rfl ?_
          refine Ops.gu rfl rfl rfl (Dtu.fld fa156_2 (lk rfl)) rfl ?_
          refine Ops.gd rfl rfl rfl (Det.ld Try.isAgg102 (lk rfl) (Rd.ow 0 rfl rfl)) rfl ?_
          refine Ops.gu rfl rfl rfl (Dtu.ix (i := 0) Try.underlying102 Try.sizeOf162 (Sl.vsl 1 rfl) (lk rfl) (lk rfl) (by omega) (by omega)) rfl ?_
          refine Ops.gu rfl rfl rfl (Dtu.fld fa162_0 (lk rfl)) rfl ?_
          refine Ops.gd rfl rfl rfl (Det.ld Try.isAgg75 (lk rfl) (Rd.sl2 (Sl.vsl 1 rfl) (gfe (sz := 4) (fun _ => rfl) (by omega) rfl))) rfl ?_
          refine Ops.gu rfl rfl rfl (Dtu.mv (lk rfl)) rfl ?_
          refine Ops.gu rfl rfl rfl (Dtu.lss (lk rfl) (lk rfl)) rfl ?_
          refine Ops.u (Dtu.pickT (lk rfl) (lk rfl)) rfl ?_
          refine Ops.nil ?_
          refine Then.next ?_
          refine Body.condP (lk rfl) (fun _ => ?_) (fun hn => absurd (by first | omega | assumption | decide) hn)
          refine Body.skip ?_
          refine Then.next ?_
          refine Body.block ?_
          refine Body.seq ?_
          refine Body.seq ?_
          refine Body.region ?_
          refine Ops.u (Dtu.mv (lk rfl)) rfl ?_
          refine Ops.u (Dtu.mv (lk rfl)) rfl ?_
          refine Ops.u (Dtu.nilck (lk rfl)) rfl ?_
          refine Ops.u (Dtu.fld fa156_2 (lk rfl)) rfl ?_
          refine Ops.d (Det.ld Try.isAgg102 (lk rfl) (Rd.ow 0 rfl rfl)) rfl ?_
          refine Ops.u (Dtu.ix (i := 0) Try.underlying102 Try.sizeOf162 (Sl.vsl 1 rfl) (lk rfl) (lk rfl) (by omega) (by omega)) rfl ?_
          refine Ops.d (Det.lda Try.isAgg162 Try.sizeOf162 (lk rfl) (Rds.sl (Sl.vsl 1 rfl) (gf (sz := 4) (fun _ => rfl) (by omega))) rfl) rfl ?_
          refine Ops.s (Stp.callOwn [0, 0, 0] rfl rfl Try.call100 (lks rfl) (fun E' le hat => hrt E') ?_) rfl
          rintro _ _ ⟨rfl, rfl⟩
          refine Ops.u (Dtu.not (lk rfl)) rfl ?_
          refine Ops.nil ?_
          refine Then.next ?_
          refine Body.condT (lk rfl) ?_
          refine Body.seq ?_
          refine Body.region ?_
          refine Ops.u (Dtu.mv (lk rfl)) rfl ?_
          refine Ops.u (Dtu.nilck (lk rfl)) rfl ?_
          refine Ops.u (Dtu.fld fa156_7 (lk rfl)) rfl ?_
          refine Ops.d (Det.ld Try.isAgg3 (lk rfl) (Rd.ow 0 rfl rfl)) rfl ?_
          refine Ops.u (Dtu.add (lk rfl) (lk rfl) (w64 (by omega) (by omega))) rfl ?_
          refine Ops.u (Dtu.nilck (lk rfl)) rfl ?_
          refine Ops.u (Dtu.fld fa156_7 (lk rfl)) rfl ?_
          refine Ops.e (Stp.store 0 Try.sizeOf3 (lk rfl) (lk rfl) rfl rfl rfl rfl rfl rfl rfl ?_)
          refine Ops.nil ?_
          refine Then.next ?_
          refine Body.seq ?_
          refine Body.region ?_
          refine Ops.u (Dtu.mv (lk rfl)) rfl ?_
          refine Ops.s (Stp.callOwn [0] rfl rfl Try.call98 (lks rfl) (fun E' le hat => egiveUp_ok E' b ⟨⟨⟨sr, sk, sl, so, sq, sv⟩, st, sp, sn, sb⟩, gs, ar, ac, qt, ty, hi, mi + 1⟩ _ _ _ _ _ _) ?_) rfl
          rintro _ _ rfl
          refine Ops.nil ?_
          refine Then.next ?_
          refine Body.exit ?_
          refine Then.exit ?_
          refine Blk.past rfl ?_
          refine Round.exit ?_
          refine Blk.here ?_
          exact Joint.goW (none, 0, 0) rfl rfl rfl trivial (fun w s => (pkN [0, 1] 4 rfl w s).perm (List.Perm.cons _ (List.Perm.swap _ _ _))) trivial
      · rw [if_neg (fun hh => h1 hh.2)] at hst
        subst hst
        refine Body.seq ?_
        refine Body.seq ?_
        refine Body.region ?_
        refine Ops.u (Dtu.mv (lk rfl)) rfl ?_
        refine Ops.u (Dtu.nilck (lk rfl)) rfl ?_
        refine Ops.u (Dtu.fld fa156_2 (lk rfl)) rfl ?_
        refine Ops.d (Det.ld Try.isAgg102 (lk rfl) (Rd.ow 0 rfl rfl)) rfl ?_
        refine Ops.u (Dtu.lenS Try.underlying102 (Sl.vsl 1 rfl) (lk rfl)) rfl ?_
        refine Ops.u (Dtu.gtr (lk rfl) (lk rfl)) rfl ?_
        refine Ops.u (Dtu.mv (lk rfl)) rfl ?_
        refine Ops.decP 31 rfl (fun _ => ?_) (fun hn => absurd (by first | omega | assumption | decide) hn)
        refine Ops.gu rfl rfl rfl (Dtu.mv (lk rfl)) rfl ?_
        refine Ops.gu rfl rfl rfl (Dtu.nilck (lk rfl)) rfl ?_
        refine Ops.gu rfl rfl rfl (Dtu.fld fa156_2 (lk rfl)) rfl ?_
        refine Ops.gd rfl rfl rfl (Det.ld Try.isAgg102 (lk rfl) (Rd.ow 0 rfl rfl)) rfl ?_
        refine Ops.gu rfl rfl rfl (Dtu.ix (i := 0) Try.underlying102 Try.sizeOf162 (Sl.vsl 1 rfl) (lk rfl) (lk rfl) (by omega) (by omega)) rfl ?_
        refine Ops.gu rfl rfl rfl (Dtu.fld fa162_0 (lk rfl)) rfl ?_
        refine Ops.gd rfl rfl rfl (Det.ld Try.isAgg75 (lk rfl) (Rd.sl2 (Sl.vsl 1 rfl) (gfe (sz := 4) (fun _ => rfl) (by omega) rfl))) rfl ?_
        refine Ops.gu rfl rfl rfl (Dtu.mv (lk rfl)) rfl ?_
        refine Ops.gu rfl rfl rfl (Dtu.lss (lk rfl) (lk rfl)) rfl ?_
        refine Ops.u (Dtu.pickT (lk rfl) (lk rfl)) rfl ?_
        refine Ops.nil ?_
        refine Then.next ?_
        refine Body.condP (lk rfl) (fun hy => absurd hy (by first | omega | assumption | decide)) (fun _ => ?_)
        refine Body.exit ?_
        refine Then.exit ?_
        refine Round.exit ?_
        refine Blk.here ?_
        refine Joint.goK [0, 0, 0] (p, q, k) rfl rfl rfl trivial rfl rfl trivial
    · rw [if_neg (fun hh => h0 hh.1)] at hst
      subst hst
      refine Body.seq ?_
      refine Body.seq ?_
      refine Body.region ?_
      refine Ops.u (Dtu.mv (lk rfl)) rfl ?_
      refine Ops.u (Dtu.nilck (lk rfl)) rfl ?_
      refine Ops.u (Dtu.fld fa156_2 (lk rfl)) rfl ?_
      refine Ops.d (Det.ld Try.isAgg102 (lk rfl) (Rd.ow 0 rfl rfl)) rfl ?_
      refine Ops.u (Dtu.lenS Try.underlying102 (Sl.vsl 1 rfl) (lk rfl)) rfl ?_
      refine Ops.u (Dtu.gtr (lk rfl) (lk rfl)) rfl ?_
      refine Ops.u (Dtu.mv (lk rfl)) rfl ?_
      refine Ops.decP 31 rfl (fun hy => absurd hy (by first | omega | assumption | decide)) (fun _ => ?_)
      refine Ops.gn rfl rfl rfl rfl rfl ?_
      refine Ops.gn rfl rfl rfl rfl rfl ?_
      refine Ops.gn rfl rfl rfl rfl rfl ?_
      refine Ops.gn rfl rfl rfl rfl rfl ?_
      refine Ops.gn rfl rfl rfl rfl rfl ?_
      refine Ops.gn rfl rfl rfl rfl rfl ?_
      refine Ops.gn rfl rfl rfl rfl rfl ?_
      refine Ops.gn rfl rfl rfl rfl rfl ?_
      refine Ops.gn rfl rfl rfl rfl rfl ?_
      refine Ops.u (Dtu.pickF (lk rfl) (lk rfl)) rfl ?_
      refine Ops.nil ?_
      refine Then.next ?_
      refine Body.condF (lk rfl) ?_
      refine Body.exit ?_
      refine Then.exit ?_
      refine Round.exit ?_
      refine Blk.here ?_
      refine Joint.goK [0, 0, 0] (p, q, k) rfl rfl rfl trivial rfl rfl trivial
  · rintro ⟨p, q, k⟩ u _
    clear hX0
    obtain ⟨⟨⟨r2, c2, l2, o2, q2, v2⟩, t2, p2, n2, b2⟩, gs2, ar2, ac2, qt2, ty2, hi2, mi2⟩ := X
    obtain ⟨⟨rfl, rfl, rfl, rfl, rfl, rfl⟩, rfl, rfl, rfl, rfl⟩ : ((r2 = sr ∧ c2 = sk ∧ l2 = sl ∧ o2 = so ∧ q2 = sq ∧ v2 = sv) ∧ t2 = st ∧ p2 = sp ∧ n2 = sn ∧ b2 = sb) := by
      simpa using hXs
    dsimp only
    unfold Ech.rest0 Ech.calm
    by_cases h0 : gs2.length = 0
    · rw [if_pos h0]
      cases qt2 with
      | true =>
        refine Body.seq ?_
        refine Body.seq ?_
        refine Body.region ?_
        refine Ops.u (Dtu.mv (lk rfl)) rfl ?_
        refine Ops.u (Dtu.nilck (lk rfl)) rfl ?_
        refine Ops.u (Dtu.fld fa156_2 (lk rfl)) rfl ?_
        refine Ops.d (Det.ld Try.isAgg102 (lk rfl) (Rd.ow 0 rfl rfl)) rfl ?_
        refine Ops.u (Dtu.lenS Try.underlying102 (Sl.vsl 1 rfl) (lk rfl)) rfl ?_
        refine Ops.u (Dtu.eql (lk rfl) (lk rfl)) rfl ?_
        refine Ops.nil ?_
        refine Then.next ?_
        refine Body.condP (lk rfl) (fun _ => ?_) (fun hn => absurd (by first | omega | assumption | decide) hn)
        refine Body.region ?_
        refine Ops.u (Dtu.mv (lk rfl)) rfl ?_
        refine Ops.s (Stp.callOwn [0] rfl rfl Try.call91 (lks rfl) (fun E' le hat => erest_ok E' _ ⟨⟨⟨_, _, _, _, _, _⟩, _, _, _, _⟩, _, _, _, _, _, _, _⟩ _ _ _ _ _ _) ?_) rfl
        rintro _ _ rfl
        refine Ops.nil ?_
        refine Then.next ?_
        refine Body.seq ?_
        refine Body.region ?_
        refine Ops.u (Dtu.mv (lk rfl)) rfl ?_
        refine Ops.u (Dtu.mv (lk rfl)) rfl ?_
        refine Ops.u (Dtu.nilck (lk rfl)) rfl ?_
        refine Ops.u (Dtu.fld fa156_4 (lk rfl)) rfl ?_
        refine Ops.d (Det.ld Try.isAgg4 (lk rfl) (Rd.ow 0 rfl rfl)) rfl ?_
        refine Ops.u (Dtu.mv (lk rfl)) rfl ?_
        refine Ops.gu rfl rfl rfl (Dtu.mv (lk rfl)) rfl ?_
        refine Ops.gu rfl rfl rfl (Dtu.nilck (lk rfl)) rfl ?_
        refine Ops.gu rfl rfl rfl (Dtu.fld fa156_5 (lk rfl)) rfl ?_
        refine Ops.gd rfl rfl rfl (Det.ld Try.isAgg75 (lk rfl) (Rd.ow 0 rfl rfl)) rfl ?_
        refine Ops.gu rfl rfl rfl (Dtu.mv (lk rfl)) rfl ?_
        refine Ops.gu rfl rfl rfl (Dtu.gtr (lk rfl) (lk rfl)) rfl ?_
        refine Ops.u (Dtu.pickT (lk rfl) (lk rfl)) rfl ?_
        refine Ops.u (Dtu.nilck (lk rfl)) rfl ?_
        refine Ops.u (Dtu.fld fa156_4 (lk rfl)) rfl ?_
        refine Ops.e (Stp.store 0 Try.sizeOf4 (lk rfl) (lk rfl) rfl rfl rfl rfl rfl rfl rfl ?_)
        refine Ops.nil ?_
        refine Then.next ?_
        refine Body.seq ?_
        refine Body.region ?_
        refine Ops.u (Dtu.asg (lk rfl)) rfl ?_
        refine Ops.nil ?_
        refine Then.next ?_
        refine Body.ret ?_
        exact ⟨.inr rfl, _, fun w s => (pkN [0, 1] 4 rfl w s).perm (List.Perm.cons _ (List.Perm.swap _ _ _)), rfl, za18, zm18, zc18, none, 0, 0, rfl⟩
      | false =>
        refine Body.seq ?_
        refine Body.seq ?_
        refine Body.region ?_
        refine Ops.u (Dtu.mv (lk rfl)) rfl ?_
        refine Ops.u (Dtu.nilck (lk rfl)) rfl ?_
        refine Ops.u (Dtu.fld fa156_2 (lk rfl)) rfl ?_
        refine Ops.d (Det.ld Try.isAgg102 (lk rfl) (Rd.ow 0 rfl rfl)) rfl ?_
        refine Ops.u (Dtu.lenS Try.underlying102 (Sl.vsl 1 rfl) (lk rfl)) rfl ?_
        refine Ops.u (Dtu.eql (lk rfl) (lk rfl)) rfl ?_
        refine Ops.nil ?_
        refine Then.next ?_
        refine Body.condP (lk rfl) (fun _ => ?_) (fun hn => absurd (by first | omega | assumption | decide) hn)
        refine Body.region ?_
        refine Ops.u (Dtu.mv (lk rfl)) rfl ?_
        refine Ops.s (Stp.callOwn [0] rfl rfl Try.call91 (lks rfl) (fun E' le hat => erest_ok E' _ ⟨⟨⟨_, _, _, _, _, _⟩, _, _, _, _⟩, _, _, _, _, _, _, _⟩ _ _ _ _ _ _) ?_) rfl
        rintro _ _ rfl
        refine Ops.nil ?_
        refine Then.next ?_
        refine Body.seq ?_
        refine Body.region ?_
        refine Ops.u (Dtu.mv (lk rfl)) rfl ?_
        refine Ops.u (Dtu.mv (lk rfl)) rfl ?_
        refine Ops.u (Dtu.nilck (lk rfl)) rfl ?_
        refine Ops.u (Dtu.fld fa156_4 (lk rfl)) rfl ?_
        refine Ops.d (Det.ld Try.isAgg4 (lk rfl) (Rd.ow 0 rfl rfl)) rfl ?_
        refine Ops.u (Dtu.mv (lk rfl)) rfl ?_
        refine Ops.gn rfl rfl rfl rfl rfl ?_
        refine Ops.gn rfl rfl rfl rfl rfl ?_
        refine Ops.gn rfl rfl rfl rfl rfl ?_
        refine Ops.gn rfl rfl rfl rfl rfl ?_
        refine Ops.gn rfl rfl rfl rfl rfl ?_
        refine Ops.gn rfl rfl rfl rfl rfl ?_
        refine Ops.u (Dtu.pickF (lk rfl) (lk rfl)) rfl ?_
        refine Ops.u (Dtu.nilck (lk rfl)) rfl ?_
        refine Ops.u (Dtu.fld fa156_4 (lk rfl)) rfl ?_
        refine Ops.e (Stp.store 0 Try.sizeOf4 (lk rfl) (lk rfl) rfl rfl rfl rfl rfl rfl rfl ?_)
        refine Ops.nil ?_
        refine Then.next ?_
        refine Body.seq ?_
        refine Body.region ?_
        refine Ops.u (Dtu.asg (lk rfl)) rfl ?_
        refine Ops.nil ?_
        refine Then.next ?_
        refine Body.ret ?_
        exact ⟨.inr rfl, _, fun w s => (pkN [0, 1] 4 rfl w s).perm (List.Perm.cons _ (List.Perm.swap _ _ _)), rfl, za18, zm18, zc18, none, 0, 0, rfl⟩
    · rw [if_neg h0]
      cases qt2 with
      | true =>
        refine Body.seq ?_
        refine Body.seq ?_
        refine Body.region ?_
        refine Ops.u (Dtu.mv (lk rfl)) rfl ?_
        refine Ops.u (Dtu.nilck (lk rfl)) rfl ?_
        refine Ops.u (Dtu.fld fa156_2 (lk rfl)) rfl ?_
        refine Ops.d (Det.ld Try.isAgg102 (lk rfl) (Rd.ow 0 rfl rfl)) rfl ?_
        refine Ops.u (Dtu.lenS Try.underlying102 (Sl.vsl 1 rfl) (lk rfl)) rfl ?_
        refine Ops.u (Dtu.eql (lk rfl) (lk rfl)) rfl ?_
        refine Ops.nil ?_
        refine Then.next ?_
        refine Body.condP (lk rfl) (fun hy => absurd hy (by first | omega | assumption | decide)) (fun _ => ?_)
        refine Body.skip ?_
        refine Then.next ?_
        refine Body.seq ?_
        refine Body.region ?_
        refine Ops.u (Dtu.mv (lk rfl)) rfl ?_
        refine Ops.u (Dtu.mv (lk rfl)) rfl ?_
        refine Ops.u (Dtu.nilck (lk rfl)) rfl ?_
        refine Ops.u (Dtu.fld fa156_4 (lk rfl)) rfl ?_
        refine Ops.d (Det.ld Try.isAgg4 (lk rfl) (Rd.ow 0 rfl rfl)) rfl ?_
        refine Ops.u (Dtu.mv (lk rfl)) rfl ?_
        refine Ops.gu rfl rfl rfl (Dtu.mv (lk rfl)) rfl ?_
        refine Ops.gu rfl rfl rfl (Dtu.nilck (lk rfl)) rfl ?_
        refine Ops.gu rfl rfl rfl (Dtu.fld fa156_5 (lk rfl)) rfl ?_
        refine Ops.gd rfl rfl rfl (Det.ld Try.isAgg75 (lk rfl) (Rd.ow 0 rfl rfl)) rfl ?_
        refine Ops.gu rfl rfl rfl (Dtu.mv (lk rfl)) rfl ?_
        refine Ops.gu rfl rfl rfl (Dtu.gtr (lk rfl) (lk rfl)) rfl ?_
        refine Ops.u (Dtu.pickT (lk rfl) (lk rfl)) rfl ?_
        refine Ops.u (Dtu.nilck (lk rfl)) rfl ?_
        refine Ops.u (Dtu.fld fa156_4 (lk rfl)) rfl ?_
        refine Ops.e (Stp.store 0 Try.sizeOf4 (lk rfl) (lk rfl) rfl rfl rfl rfl rfl rfl rfl ?_)
        refine Ops.nil ?_
        refine Then.next ?_
        refine Body.seq ?_
        refine Body.region ?_
        refine Ops.u (Dtu.asg (lk rfl)) rfl ?_
        refine Ops.nil ?_
        refine Then.next ?_
        refine Body.ret ?_
        exact ⟨.inr rfl, _, pk [0, 0, 0] rfl, rfl, za18, zm18, zc18, p, q, k, rfl⟩
      | false =>
        refine Body.seq ?_
        refine Body.seq ?_
        refine Body.region ?_
        refine Ops.u (Dtu.mv (lk rfl)) rfl ?_
        refine Ops.u (Dtu.nilck (lk rfl)) rfl ?_
        refine Ops.u (Dtu.fld fa156_2 (lk rfl)) rfl ?_
        refine Ops.d (Det.ld Try.isAgg102 (lk rfl) (Rd.ow 0 rfl rfl)) rfl ?_
        refine Ops.u (Dtu.lenS Try.underlying102 (Sl.vsl 1 rfl) (lk rfl)) rfl ?_
        refine Ops.u (Dtu.eql (lk rfl) (lk rfl)) rfl ?_
        refine Ops.nil ?_
        refine Then.next ?_
        refine Body.condP (lk rfl) (fun hy => absurd hy (by first | omega | assumption | decide)) (fun _ => ?_)
        refine Body.skip ?_
        refine Then.next ?_
        refine Body.seq ?_
        refine Body.region ?_
        refine Ops.u (Dtu.mv (lk rfl)) rfl ?_
        refine Ops.u (Dtu.mv (lk rfl)) rfl ?_
        refine Ops.u (Dtu.nilck (lk rfl)) rfl ?_
        refine Ops.u (Dtu.fld fa156_4 (lk rfl)) rfl ?_
        refine Ops.d (Det.ld Try.isAgg4 (lk rfl) (Rd.ow 0 rfl rfl)) rfl ?_
        refine Ops.u (Dtu.mv (lk rfl)) rfl ?_
        refine Ops.gn rfl rfl rfl rfl rfl ?_
        refine Ops.gn rfl rfl rfl rfl rfl ?_
        refine Ops.gn rfl rfl rfl rfl rfl ?_
        refine Ops.gn rfl rfl rfl rfl rfl ?_
        refine Ops.gn rfl rfl rfl rfl rfl ?_
        refine Ops.gn rfl rfl rfl rfl rfl ?_
        refine Ops.u (Dtu.pickF (lk rfl) (lk rfl)) rfl ?_
        refine Ops.u (Dtu.nilck (lk rfl)) rfl ?_
        refine Ops.u (Dtu.fld fa156_4 (lk rfl)) rfl ?_
        refine Ops.e (Stp.store 0 Try.sizeOf4 (lk rfl) (lk rfl) rfl rfl rfl rfl rfl rfl rfl ?_)
        refine Ops.nil ?_
        refine Then.next ?_
        refine Body.seq ?_
        refine Body.region ?_
        refine Ops.u (Dtu.asg (lk rfl)) rfl ?_
        refine Ops.nil ?_
        refine Then.next ?_
        refine Body.ret ?_
        exact ⟨.inr rfl, _, pk [0, 0, 0] rfl, rfl, za18, zm18, zc18, p, q, k, rfl⟩
end Go.Proofs.Ytijjjdljdjnbaaa
end
section
/- Guesses: what is shown. -/
namespace Go.Proofs.Ytijjjdljdjnbaaa
set_option maxRecDepth 100000
set_option linter.unusedVariables false
set_option linter.unusedSimpArgs false
open Go.Sx

theorem ehits_ok (E : Env) (b : Nat) (e : Ech) (s g : Value) : Does Try.prog 93 #[.pointer (some ⟨b, 0, none⟩)] E [own b (e.cells s g) 156] fun r H' => r = .int .i64 e.hits ∧ H' = [own b (e.cells s g) 156] := by
  obtain ⟨⟨⟨r1, c1, l1, o1, q1, v1⟩, t1, p1, n1, b1⟩, gs, ar, ac, qt, ty, hi, mi⟩ := e
  refine Does.go (args := [.pointer (some ⟨b, 0, none⟩)]) _ _ Try.func93 rfl Try.ntmps93 rfl rfl ?_
  refine Body.seq ?_
  refine Body.region ?_
  refine Ops.u (Dtu.asg (lk rfl)) rfl ?_
  refine Ops.nil ?_
  refine Then.next ?_
  refine Body.seq ?_
  refine Body.seq ?_
  refine Body.region ?_
  refine Ops.u (Dtu.mv (lk rfl)) rfl ?_
  refine Ops.s (Stp.callOwn [0] rfl rfl Try.call95 (lks rfl) (fun E' le hat => eis_ok E' _ ⟨⟨⟨_, _, _, _, _, _⟩, _, _, _, _⟩, _, _, _, _, _, _, _⟩ _ _) ?_) rfl
  rintro _ _ ⟨rfl, rfl⟩
  refine Ops.u (Dtu.not (lk rfl)) rfl ?_
  refine Ops.nil ?_
  refine Then.next ?_
  refine Body.condF (lk rfl) ?_
  refine Body.skip ?_
  refine Then.next ?_
  refine Body.seq ?_
  refine Body.region ?_
  refine Ops.u (Dtu.mv (lk rfl)) rfl ?_
  refine Ops.u (Dtu.nilck (lk rfl)) rfl ?_
  refine Ops.u (Dtu.fld fa156_6 (lk rfl)) rfl ?_
  refine Ops.d (Det.ld Try.isAgg3 (lk rfl) (Rd.ow 0 rfl rfl)) rfl ?_
  refine Ops.u (Dtu.asg (lk rfl)) rfl ?_
  refine Ops.nil ?_
  refine Then.next ?_
  refine Body.ret ?_
  exact ⟨.inr rfl, _, pk [0] rfl, rfl, rfl⟩
theorem emisses_ok (E : Env) (b : Nat) (e : Ech) (s g : Value) : Does Try.prog 94 #[.pointer (some ⟨b, 0, none⟩)] E [own b (e.cells s g) 156] fun r H' => r = .int .i64 e.misses ∧ H' = [own b (e.cells s g) 156] := by
  obtain ⟨⟨⟨r1, c1, l1, o1, q1, v1⟩, t1, p1, n1, b1⟩, gs, ar, ac, qt, ty, hi, mi⟩ := e
  refine Does.go (args := [.pointer (some ⟨b, 0, none⟩)]) _ _ Try.func94 rfl Try.ntmps94 rfl rfl ?_
  refine Body.seq ?_
  refine Body.region ?_
  refine Ops.u (Dtu.asg (lk rfl)) rfl ?_
  refine Ops.nil ?_
  refine Then.next ?_
  refine Body.seq ?_
  refine Body.seq ?_
  refine Body.region ?_
  refine Ops.u (Dtu.mv (lk rfl)) rfl ?_
  refine Ops.s (Stp.callOwn [0] rfl rfl Try.call95 (lks rfl) (fun E' le hat => eis_ok E' _ ⟨⟨⟨_, _, _, _, _, _⟩, _, _, _, _⟩, _, _, _, _, _, _, _⟩ _ _) ?_) rfl
  rintro _ _ ⟨rfl, rfl⟩
  refine Ops.u (Dtu.not (lk rfl)) rfl ?_
  refine Ops.nil ?_
  refine Then.next ?_
  refine Body.condF (lk rfl) ?_
  refine Body.skip ?_
  refine Then.next ?_
  refine Body.seq ?_
  refine Body.region ?_
  refine Ops.u (Dtu.mv (lk rfl)) rfl ?_
  refine Ops.u (Dtu.nilck (lk rfl)) rfl ?_
  refine Ops.u (Dtu.fld fa156_7 (lk rfl)) rfl ?_
  refine Ops.d (Det.ld Try.isAgg3 (lk rfl) (Rd.ow 0 rfl rfl)) rfl ?_
  refine Ops.u (Dtu.asg (lk rfl)) rfl ?_
  refine Ops.nil ?_
  refine Then.next ?_
  refine Body.ret ?_
  exact ⟨.inr rfl, _, pk [0] rfl, rfl, rfl⟩
theorem eguesses_ok (E : Env) (b : Nat) (e : Ech) (s : Value) (p : Option Addr) (q k : Nat) (hn : e.gs.length ≤ 64) : Does Try.prog 56 #[.pointer (some ⟨b, 0, none⟩)] E (EOwn b e s p q k) fun r H' => ∃ (p' : Option Addr) (q' k' : Nat), r = .slice p' q' k' ∧ H' = [own b (e.cells s (.slice p q k)) 156, vsl 4 (.slice p q k) e.gs.length (e.gs.flatMap Gue.enc), osl 162 4 (.slice p' q' k') e.gs.length (e.gs.flatMap Gue.enc)] := by
  obtain ⟨⟨⟨r1, c1, l1, o1, q1, v1⟩, t1, p1, n1, b1⟩, gs, ar, ac, qt, ty, hi, mi⟩ := e
  dsimp only [EOwn] at hn ⊢
  refine Does.go (args := [.pointer (some ⟨b, 0, none⟩)]) _ _ Try.func56 rfl Try.ntmps56 rfl rfl ?_
  refine Body.seq ?_
  refine Body.region ?_
  refine Ops.u (Dtu.asg (lk rfl)) rfl ?_
  refine Ops.nil ?_
  refine Then.next ?_
  refine Body.seq ?_
  refine Body.seq ?_
  refine Body.region ?_
  refine Ops.u (Dtu.mv (lk rfl)) rfl ?_
  refine Ops.s (Stp.callOwn [0] rfl rfl Try.call95 (lks rfl) (fun E' le hat => eis_ok E' _ ⟨⟨⟨_, _, _, _, _, _⟩, _, _, _, _⟩, _, _, _, _, _, _, _⟩ _ _) ?_) rfl
  rintro _ _ ⟨rfl, rfl⟩
  refine Ops.u (Dtu.not (lk rfl)) rfl ?_
  refine Ops.nil ?_
  refine Then.next ?_
  refine Body.condF (lk rfl) ?_
  refine Body.skip ?_
  refine Then.next ?_
  refine Body.seq ?_
  refine Body.region ?_
  refine Ops.u (Dtu.mv (lk rfl)) rfl ?_
  refine Ops.u (Dtu.nilck (lk rfl)) rfl ?_
  refine Ops.u (Dtu.fld fa156_2 (lk rfl)) rfl ?_
  refine Ops.d (Det.ld Try.isAgg102 (lk rfl) (Rd.ow 0 rfl rfl)) rfl ?_
  refine Ops.s (Stp.call rfl Try.call101 (lks rfl) (fun E' le hat => cloneG_ok E' _ _ _ (Sl.atV (hat _ (.tail _ (.head _)))) (all_flat gue_one _) (by omega)) ?_) rfl
  rintro _ _ ⟨rfl, y1, y2, y3, rfl⟩
  refine Ops.u (Dtu.asg (lk rfl)) rfl ?_
  refine Ops.nil ?_
  refine Then.next ?_
  refine Body.ret ?_
  exact ⟨.inr rfl, _, pk [1, 1, 0] rfl, y1, y2, y3, rfl, rfl⟩
theorem rows_ok (E : Env) (v : View) (a : Option Addr) (m k : Nat) (h : v.has E [] (.slice a m k)) (hf : ∀ c ∈ v.cells, c.Fl) (hc : ∀ c ∈ v.cells, c.Cols) (hn : v.cells.length ≤ 1000) : Does Try.prog 55 #[v.val (.slice a m k)] E [] fun r H' => r = .bool v.ok ∧ H' = [] := by
  obtain ⟨r1, c1, l1, o1, q1, v1⟩ := v
  unfold View.has at h
  dsimp only at h hf hc hn
  refine Does.go (args := [.agg (List.toArray [.int .i64 r1, .int .i64 c1, .slice a m k, .int .i64 o1, .int .i64 q1, .bool v1])]) _ _ Try.func55 rfl Try.ntmps55 rfl rfl ?_
  refine Body.seq ?_
  refine Body.region ?_
  refine Ops.s (Stp.box (lk rfl) rfl (fun b1 => ?_)) rfl
  refine Ops.u (Dtu.asg (lk rfl)) rfl ?_
  refine Ops.nil ?_
  refine Then.next ?_
  refine Body.seq ?_
  refine Body.region ?_
  refine Ops.d (Det.lda Try.isAgg24 Try.sizeOf24 (lk rfl) (Rds.ow (m := 6) 0 rfl rfl) rfl) rfl ?_
  refine Ops.s (Stp.call rfl Try.call16 (lks rfl) (fun E' le hat => as20_ok E' ⟨_, _, _, _, _, _⟩ _ (Sl.mono (by assumption) le) (by assumption) (by first | assumption | omega)) ?_) rfl
  rintro _ _ ⟨xa4, xm4, xc4, rfl, rfl⟩
  refine Ops.s (Stp.call rfl Try.call18 (lks rfl) (fun E' le hat => rright_ok E' ⟨r1, c1, l1, o1, q1, v1⟩ (.slice xa4 xm4 xc4) (Sl.at (t := 65) (hat _ (by simp))) hc) ?_) rfl
  rintro _ _ ⟨rfl, rfl⟩
  refine Ops.u (Dtu.asg (lk rfl)) rfl ?_
  refine Ops.nil ?_
  refine Then.next ?_
  refine Body.ret ?_
  exact ⟨.inr rfl, _, pk [] rfl, rfl, rfl⟩
set_option maxHeartbeats 3200000 in
theorem eshow_ok (E : Env) (b : Nat) (e : Ech) (N : Int) (h : e.Ok N) (a : Option Addr) (m c : Nat) (p : Option Addr) (q k : Nat) : Does Try.prog 54 #[.pointer (some ⟨b, 0, none⟩)] E (EOwn3 b e a m c p q k) fun r H' => ∃ (a' : Option Addr) (m' c' : Nat), r = .tuple #[e.show.val (.slice a' m' c'), .int .i64 0] ∧ H' = EOwn3 b e a m c p q k ++ [osl 55 4 (.slice a' m' c') e.show.cells.length (e.show.cells.flatMap Cell.enc)] := by
  have hf := h.fits
  have hn := h.n
  have hg := h.g
  have h480 := ok_480 (Stt.ok_fits h.seen).1
  unfold Ech.show
  obtain ⟨⟨⟨r1, c1, l1, o1, q1, v1⟩, t1, p1, n1, b1⟩, gs, ar, ac, qt, ty, hi, mi⟩ := e
  dsimp only [EOwn3] at hf hn hg h480 ⊢
  refine Does.go (args := [.pointer (some ⟨b, 0, none⟩)]) _ _ Try.func54 rfl Try.ntmps54 rfl rfl ?_
  refine Body.seq ?_
  refine Body.region ?_
  refine Ops.s (Stp.alloc ty24 (fun b2 => ?_)) rfl
  refine Ops.u (Dtu.asg (lk rfl)) rfl ?_
  refine Ops.nil ?_
  refine Then.next ?_
  refine Body.seq ?_
  refine Body.seq ?_
  refine Body.region ?_
  refine Ops.u (Dtu.mv (lk rfl)) rfl ?_
  refine Ops.s (Stp.callOwn [1] rfl rfl Try.call95 (lks rfl) (fun E' le hat => eis_ok E' _ ⟨⟨⟨_, _, _, _, _, _⟩, _, _, _, _⟩, _, _, _, _, _, _, _⟩ _ _) ?_) rfl
  rintro _ _ ⟨rfl, rfl⟩
  refine Ops.u (Dtu.not (lk rfl)) rfl ?_
  refine Ops.nil ?_
  refine Then.next ?_
  refine Body.condF (lk rfl) ?_
  refine Body.skip ?_
  refine Then.next ?_
  refine Body.seq ?_
  refine Body.region ?_
  refine Ops.u (Dtu.mv (lk rfl)) rfl ?_
  refine Ops.u (Dtu.nilck (lk rfl)) rfl ?_
  refine Ops.u (Dtu.fld fa156_1 (lk rfl)) rfl ?_
  refine Ops.u (Dtu.fld fa77_0 (lk rfl)) rfl ?_
  refine Ops.d (Det.lda Try.isAgg24 Try.sizeOf24 (lk rfl) (Rds.ow (m := 6) 0 rfl rfl) rfl) rfl ?_
  refine Ops.s (Stp.alloc ty24 (fun b4 => ?_)) rfl
  refine Ops.e (Stp.store 0 Try.sizeOf24 (lk rfl) (lk rfl) rfl rfl rfl rfl rfl rfl rfl ?_)
  refine Ops.nil ?_
  refine Then.next ?_
  refine Body.seq ?_
  refine Body.region ?_
  refine Ops.u (Dtu.fld fa24_2 (lk rfl)) rfl ?_
  refine Ops.d (Det.ld Try.isAgg22 (lk rfl) (Rd.ow 0 rfl rfl)) rfl ?_
  refine Ops.s (Stp.call rfl Try.call99 (lks rfl) (fun E' le hat => cloneC_ok E' _ l1.length (l1.flatMap Cell.enc) (Sl.at (t := 55) (hat _ (by simp))) (all_flat enc_one _) (by omega)) ?_) rfl
  rintro _ _ ⟨rfl, na, nm, nc, rfl⟩
  refine Ops.u (Dtu.fld fa24_2 (lk rfl)) rfl ?_
  refine Ops.e (Stp.store 1 Try.sizeOf22 (lk rfl) (lk rfl) rfl rfl rfl rfl rfl rfl rfl ?_)
  refine Ops.nil ?_
  refine Then.next ?_
  refine Body.seq ?_
  refine Body.seq ?_
  refine Body.region ?_
  refine Ops.u (Dtu.mv (lk rfl)) rfl ?_
  refine Ops.u (Dtu.nilck (lk rfl)) rfl ?_
  refine Ops.u (Dtu.fld fa156_2 (lk rfl)) rfl ?_
  refine Ops.d (Det.ld Try.isAgg102 (lk rfl) (Rd.ow 2 rfl rfl)) rfl ?_
  refine Ops.u (Dtu.lenS Try.underlying102 (Sl.vsl 4 rfl) (lk rfl)) rfl ?_
  refine Ops.u (Dtu.mv (lk rfl)) rfl ?_
  refine Ops.nil ?_
  refine Then.next ?_
  refine Body.block ?_
  refine Body.conseq (pk [1, 0, 1, 0, 0, 0] rfl) ?_
  refine Body.loopF (γ := Nat × List Cell) rfl (fun g => [(26, .int .i64 g.1)]) (fun g => [own b4 [.int .i64 r1, .int .i64 c1, .slice na nm nc, .int .i64 o1, .int .i64 q1, .bool v1] 24, osl 55 4 (.slice na nm nc) g.2.length (g.2.flatMap Cell.enc), own b2 [.int .i64 0, .int .i64 0, .slice none 0 0, .int .i64 0, .int .i64 0, .bool false] 24, own b (Ech.cells ⟨⟨⟨r1, c1, l1, o1, q1, v1⟩, t1, p1, n1, b1⟩, gs, ar, ac, qt, ty, hi, mi⟩ (.slice a m c) (.slice p q k)) 156, vsl 4 (.slice p q k) gs.length (gs.flatMap Gue.enc), osl 55 4 (.slice a m c) l1.length (l1.flatMap Cell.enc)])
    (fun g => g.1 ≤ gs.length ∧ (gs.take g.1).foldl (drawG r1 c1) l1 = g.2 ∧ g.2.length = l1.length) (fun g => gs.length - g.1) (0, l1) ⟨Nat.zero_le _, rfl, rfl⟩ ⟨rfl, trivial⟩ rfl ?_
  rintro ⟨i, cs⟩ u ⟨hi0, hcs, hcl⟩
  dsimp only at hi0 hcs hcl ⊢
  by_cases hlt : i < gs.length
  · have hnext : (gs.take (i + 1)).foldl (drawG r1 c1) l1 = drawG r1 c1 cs gs[i]! := by
      rw [List.take_succ_eq_append_getElem hlt, List.foldl_append, hcs, getElem!_pos gs i hlt]; rfl
    unfold drawG at hnext
    by_cases hx : 0 ≤ indexV r1 c1 gs[i]!.row gs[i]!.col
    · rw [if_pos hx] at hnext
      have hjl := indexV_lt hx
      obtain ⟨j, hj⟩ := Int.eq_ofNat_of_zero_le hx
      rw [hj, Int.toNat_natCast] at hnext
      refine Body.seq ?_
      refine Body.region ?_
      refine Ops.u (Dtu.lss (lk rfl) (lk rfl)) rfl ?_
      refine Ops.nil ?_
      refine Then.next ?_
      refine Body.seq ?_
      refine Body.condP (lk rfl) (fun _ => ?_) (fun hn => absurd (by first | omega | assumption | decide) hn)
      refine Body.skip ?_
      refine Then.next ?_
      refine Body.seq ?_
      refine Body.block ?_
      refine Body.seq ?_
      refine Body.region ?_
      refine Ops.u (Dtu.ix (i := (i)) Try.underlying102 Try.sizeOf162 (Sl.vsl 4 rfl) (lk rfl) (lk rfl) (by omega) (by omega)) rfl ?_
      refine Ops.d (Det.lda Try.isAgg162 Try.sizeOf162 (lk rfl) (Rds.sl (Sl.vsl 4 rfl) (gf (sz := 4) (fun _ => rfl) (by omega))) rfl) rfl ?_
      refine Ops.s (Stp.alloc ty162 (fun b6 => ?_)) rfl
      refine Ops.e (Stp.store 0 Try.sizeOf162 (lk rfl) (lk rfl) rfl rfl rfl rfl rfl rfl rfl ?_)
      refine Ops.nil ?_
      refine Then.next ?_
      refine Body.seq ?_
      refine Body.region ?_
      refine Ops.d (Det.lda Try.isAgg24 Try.sizeOf24 (lk rfl) (Rds.ow (m := 6) 1 rfl rfl) rfl) rfl ?_
      refine Ops.u (Dtu.fld fa162_1 (lk rfl)) rfl ?_
      refine Ops.d (Det.ld Try.isAgg3 (lk rfl) (Rd.ow 0 rfl rfl)) rfl ?_
      refine Ops.u (Dtu.fld fa162_2 (lk rfl)) rfl ?_
      refine Ops.d (Det.ld Try.isAgg3 (lk rfl) (Rd.ow 0 rfl rfl)) rfl ?_
      refine Ops.s (Stp.call rfl Try.call102 (lks rfl) (fun E' le hat => eindex_ok E' _ _ _ _ _ _ _ _ _ _ (by omega)) ?_) rfl
      rintro _ _ ⟨rfl, rfl⟩
      refine Ops.u (Dtu.asg (lk rfl)) rfl ?_
      refine Ops.nil ?_
      refine Then.next ?_
      refine Body.seq ?_
      refine Body.region ?_
      refine Ops.u (Dtu.mv (lk rfl)) rfl ?_
      refine Ops.u (Dtu.geq (lk rfl) (lk rfl)) rfl ?_
      refine Ops.nil ?_
      refine Then.next ?_
      refine Body.condP (lk rfl) (fun _ => ?_) (fun hn => absurd (by first | omega | assumption | decide) hn)
      rw [hj]
      refine Body.seq ?_
      refine Body.region ?_
      refine Ops.u (Dtu.fld fa24_2 (lk rfl)) rfl ?_
      refine Ops.d (Det.ld Try.isAgg22 (lk rfl) (Rd.ow 1 rfl rfl)) rfl ?_
      refine Ops.u (Dtu.mv (lk rfl)) rfl ?_
      refine Ops.u (Dtu.fld fa162_3 (lk rfl)) rfl ?_
      refine Ops.d (Det.ld Try.isAgg21 (lk rfl) (Rd.ow 0 rfl rfl)) rfl ?_
      refine Ops.u (Dtu.ix (i := (j)) Try.underlying22 Try.sizeOf55 (Sl.osl 2 rfl) (lk rfl) (lk rfl) (by omega) (by omega)) rfl ?_
      refine Ops.u (Dtu.fld fa55_0 (lk rfl)) rfl ?_
      refine Ops.e (Stp.storeP 2 (en := Cell.enc) (sz := 4) (y := ⟨(gs[i]!.pt), (cs)[j]!.fl, (cs)[j]!.fg, (cs)[j]!.bg⟩) (fun _ => rfl) [] Try.sizeOf21 rfl (lk rfl) (lk rfl) rfl rfl (by omega) rfl rfl rfl ?_)
      refine Ops.nil ?_
      refine Then.next ?_
      generalize hcs2 : cs.set j _ = cs2
      have hl2 : cs2.length = l1.length := by rw [← hcs2, List.length_set, hcl]
      have hj2 : cs2[j]! = ⟨gs[i]!.pt, cs[j]!.fl, cs[j]!.fg, cs[j]!.bg⟩ := by
        rw [getElem!_pos cs2 j (by omega)]
        simp only [← hcs2, List.getElem_set_self]
      refine Body.region ?_
      refine Ops.u (Dtu.fld fa24_2 (lk rfl)) rfl ?_
      refine Ops.d (Det.ld Try.isAgg22 (lk rfl) (Rd.ow 1 rfl rfl)) rfl ?_
      refine Ops.u (Dtu.mv (lk rfl)) rfl ?_
      refine Ops.u (Dtu.ix (i := (j)) Try.underlying22 Try.sizeOf55 (Sl.osl 2 rfl) (lk rfl) (lk rfl) (by omega) (by omega)) rfl ?_
      refine Ops.u (Dtu.fld fa55_1 (lk rfl)) rfl ?_
      refine Ops.u (Dtu.fld fa53_0 (lk rfl)) rfl ?_
      refine Ops.d (Det.ld Try.isAgg5 (lk rfl) (Rd.sl2 (Sl.osl 2 rfl) (gfe (sz := 4) (fun _ => rfl) (by omega) rfl))) rfl ?_
      refine Ops.u (Dtu.bit rfl (lk rfl) (lk rfl) rfl) rfl ?_
      refine Ops.u (Dtu.ix (i := (j)) Try.underlying22 Try.sizeOf55 (Sl.osl 2 rfl) (lk rfl) (lk rfl) (by omega) (by omega)) rfl ?_
      refine Ops.u (Dtu.fld fa55_1 (lk rfl)) rfl ?_
      refine Ops.u (Dtu.fld fa53_0 (lk rfl)) rfl ?_
      refine Ops.e (Stp.storeP 2 (en := Cell.enc) (sz := 4) (y := ⟨(cs2)[j]!.pt, (ibit BinOp.or IntKind.u8 cs2[j]!.fl 8), (cs2)[j]!.fg, (cs2)[j]!.bg⟩) (fun _ => rfl) [_] Try.sizeOf5 rfl (lk rfl) (lk rfl) rfl rfl (by omega) rfl rfl rfl ?_)
      refine Ops.nil ?_
      refine Blk.norm ?_
      refine Then.next ?_
      refine Body.region ?_
      refine Ops.u (Dtu.add (lk rfl) (lk rfl) (w64 (by omega) (by omega))) rfl ?_
      refine Ops.u (Dtu.mv (lk rfl)) rfl ?_
      refine Ops.nil ?_
      have hfin : cs2.set j ⟨cs2[j]!.pt, ibit .or .u8 cs2[j]!.fl 8, cs2[j]!.fg, cs2[j]!.bg⟩ = cs.set j (under cs[j]! gs[i]!.pt) := by
        rw [hj2, ← hcs2, List.set_set]; rfl
      refine Round.goK [1, 1, 1, 1, 1, 1] (i + 1, cs.set j (under cs[j]! gs[i]!.pt)) rfl rfl rfl ⟨int_eq (by simp), trivial⟩ rfl (by rw [hfin, List.length_set]) ⟨by dsimp only; omega, hnext, by simp; omega⟩ (by dsimp only; omega)
    · rw [if_neg hx] at hnext
      refine Body.seq ?_
      refine Body.region ?_
      refine Ops.u (Dtu.lss (lk rfl) (lk rfl)) rfl ?_
      refine Ops.nil ?_
      refine Then.next ?_
      refine Body.seq ?_
      refine Body.condP (lk rfl) (fun _ => ?_) (fun hn => absurd (by first | omega | assumption | decide) hn)
      refine Body.skip ?_
      refine Then.next ?_
      refine Body.seq ?_
      refine Body.block ?_
      refine Body.seq ?_
      refine Body.region ?_
      refine Ops.u (Dtu.ix (i := (i)) Try.underlying102 Try.sizeOf162 (Sl.vsl 4 rfl) (lk rfl) (lk rfl) (by omega) (by omega)) rfl ?_
      refine Ops.d (Det.lda Try.isAgg162 Try.sizeOf162 (lk rfl) (Rds.sl (Sl.vsl 4 rfl) (gf (sz := 4) (fun _ => rfl) (by omega))) rfl) rfl ?_
      refine Ops.s (Stp.alloc ty162 (fun b6 => ?_)) rfl
      refine Ops.e (Stp.store 0 Try.sizeOf162 (lk rfl) (lk rfl) rfl rfl rfl rfl rfl rfl rfl ?_)
      refine Ops.nil ?_
      refine Then.next ?_
      refine Body.seq ?_
      refine Body.region ?_
      refine Ops.d (Det.lda Try.isAgg24 Try.sizeOf24 (lk rfl) (Rds.ow (m := 6) 1 rfl rfl) rfl) rfl ?_
      refine Ops.u (Dtu.fld fa162_1 (lk rfl)) rfl ?_
      refine Ops.d (Det.ld Try.isAgg3 (lk rfl) (Rd.ow 0 rfl rfl)) rfl ?_
      refine Ops.u (Dtu.fld fa162_2 (lk rfl)) rfl ?_
      refine Ops.d (Det.ld Try.isAgg3 (lk rfl) (Rd.ow 0 rfl rfl)) rfl ?_
      refine Ops.s (Stp.call rfl Try.call102 (lks rfl) (fun E' le hat => eindex_ok E' _ _ _ _ _ _ _ _ _ _ (by omega)) ?_) rfl
      rintro _ _ ⟨rfl, rfl⟩
      refine Ops.u (Dtu.asg (lk rfl)) rfl ?_
      refine Ops.nil ?_
      refine Then.next ?_
      refine Body.seq ?_
      refine Body.region ?_
      refine Ops.u (Dtu.mv (lk rfl)) rfl ?_
      refine Ops.u (Dtu.geq (lk rfl) (lk rfl)) rfl ?_
      refine Ops.nil ?_
      refine Then.next ?_
      refine Body.condP (lk rfl) (fun hy => absurd hy (by first | omega | assumption | decide)) (fun _ => ?_)
      refine Body.skip ?_
      refine Blk.norm ?_
      refine Then.next ?_
      refine Body.region ?_
      refine Ops.u (Dtu.add (lk rfl) (lk rfl) (w64 (by omega) (by omega))) rfl ?_
      refine Ops.u (Dtu.mv (lk rfl)) rfl ?_
      refine Ops.nil ?_
      refine Round.goK [1, 1, 1, 1, 1, 1] (i + 1, cs) rfl rfl rfl ⟨int_eq (by simp), trivial⟩ rfl rfl ⟨by dsimp only; omega, hnext, hcl⟩ (by dsimp only; omega)
  · obtain rfl : i = gs.length := by omega
    rw [List.take_length] at hcs
    subst hcs
    refine Body.seq ?_
    refine Body.region ?_
    refine Ops.u (Dtu.lss (lk rfl) (lk rfl)) rfl ?_
    refine Ops.nil ?_
    refine Then.next ?_
    refine Body.seq ?_
    refine Body.condP (lk rfl) (fun hy => absurd hy (by first | omega | assumption | decide)) (fun _ => ?_)
    refine Body.exit ?_
    refine Then.exit ?_
    refine Round.exit ?_
    refine Blk.here ?_
    refine Then.next ?_
    refine Body.seqJ (γ := Unit) rfl (fun _ => []) (fun _ => [own b4 [.int .i64 r1, .int .i64 c1, .slice na nm nc, .int .i64 (if 0 ≤ indexV r1 c1 ar ac then ar else o1), .int .i64 (if 0 ≤ indexV r1 c1 ar ac then ac else q1), .bool v1] 24, osl 55 4 (.slice na nm nc) (gs.foldl (drawG r1 c1) l1).length ((gs.foldl (drawG r1 c1) l1).flatMap Cell.enc), own b2 [.int .i64 0, .int .i64 0, .slice none 0 0, .int .i64 0, .int .i64 0, .bool false] 24, own b (Ech.cells ⟨⟨⟨r1, c1, l1, o1, q1, v1⟩, t1, p1, n1, b1⟩, gs, ar, ac, qt, ty, hi, mi⟩ (.slice a m c) (.slice p q k)) 156, vsl 4 (.slice p q k) gs.length (gs.flatMap Gue.enc), osl 55 4 (.slice a m c) l1.length (l1.flatMap Cell.enc)]) (fun _ => True) ?_ ?_
    · by_cases hx : 0 ≤ indexV r1 c1 ar ac
      · rw [if_pos hx, if_pos hx]
        refine Body.seq ?_
        refine Body.draw mixed ?_
        refine AB.d 0 rfl (by decide +kernel) rfl (Det.lda Try.isAgg24 Try.sizeOf24 (lk rfl) (Rds.ow (m := 6) 0 rfl rfl) rfl) rfl ?_
        refine AB.u 1 rfl (by decide +kernel) (Dtu.mv (lk rfl)) rfl ?_
        refine AB.u 2 rfl (by decide +kernel) (Dtu.nilck (lk rfl)) rfl ?_
        refine AB.u 3 rfl (by decide +kernel) (Dtu.fld fa156_3 (lk rfl)) rfl ?_
        refine AB.u 4 rfl (by decide +kernel) (Dtu.fld fa154_0 (lk rfl)) rfl ?_
        refine AB.d 5 rfl (by decide +kernel) rfl (Det.ld Try.isAgg3 (lk rfl) (Rd.ow 3 rfl rfl)) rfl ?_
        refine AB.u 6 rfl (by decide +kernel) (Dtu.mv (lk rfl)) rfl ?_
        refine AB.u 7 rfl (by decide +kernel) (Dtu.nilck (lk rfl)) rfl ?_
        refine AB.u 8 rfl (by decide +kernel) (Dtu.fld fa156_3 (lk rfl)) rfl ?_
        refine AB.u 9 rfl (by decide +kernel) (Dtu.fld fa154_1 (lk rfl)) rfl ?_
        refine AB.d 10 rfl (by decide +kernel) rfl (Det.ld Try.isAgg3 (lk rfl) (Rd.ow 3 rfl rfl)) rfl ?_
        refine AB.s 11 rfl (by decide +kernel) (by decide +kernel) (Stp.call rfl Try.call102 (lks rfl) (fun E' le hat => eindex_ok E' _ _ _ _ _ _ _ _ _ _ (by omega)) ?_) rfl
        rintro _ _ ⟨rfl, rfl⟩
        refine AB.u 12 rfl (by decide +kernel) (Dtu.geq (lk rfl) (lk rfl)) rfl ?_
        refine AB.done (by decide +kernel) ?_
        refine Then.next ?_
        refine Body.condP (lk rfl) (fun _ => ?_) (fun hn => absurd (by first | omega | assumption | decide) hn)
        refine Body.drawW mixed ?_
        refine AW.u 0 rfl (by decide +kernel) (Dtu.mv (lk rfl)) rfl ?_
        refine AW.u 1 rfl (by decide +kernel) (Dtu.nilck (lk rfl)) rfl ?_
        refine AW.u 2 rfl (by decide +kernel) (Dtu.fld fa156_3 (lk rfl)) rfl ?_
        refine AW.u 3 rfl (by decide +kernel) (Dtu.fld fa154_0 (lk rfl)) rfl ?_
        refine AW.u 5 rfl (by decide +kernel) (Dtu.mv (lk rfl)) rfl ?_
        refine AW.u 6 rfl (by decide +kernel) (Dtu.nilck (lk rfl)) rfl ?_
        refine AW.u 7 rfl (by decide +kernel) (Dtu.fld fa156_3 (lk rfl)) rfl ?_
        refine AW.u 8 rfl (by decide +kernel) (Dtu.fld fa154_1 (lk rfl)) rfl ?_
        refine AW.more [4, 9] (by decide +kernel) rfl ⟨?_, ?_, trivial⟩
        · refine AWI.d rfl (Det.ld Try.isAgg3 (lk rfl) (Rd.ow 3 rfl rfl)) rfl ?_
          refine AW.u 10 rfl (by decide +kernel) (Dtu.fld fa24_3 (lk rfl)) rfl ?_
          refine AW.more [9, 11] (by decide +kernel) rfl ⟨?_, ?_, trivial⟩
          · refine AWI.d rfl (Det.ld Try.isAgg3 (lk rfl) (Rd.ow 3 rfl rfl)) rfl ?_
            refine AW.more [11] (by decide +kernel) rfl ⟨?_, trivial⟩
            refine AWI.e rfl (Stp.store 0 Try.sizeOf3 (lk rfl) (lk rfl) rfl rfl rfl rfl rfl rfl rfl ?_)
            refine AW.u 12 rfl (by decide +kernel) (Dtu.fld fa24_4 (lk rfl)) rfl ?_
            refine AW.more [13] (by decide +kernel) rfl ⟨?_, trivial⟩
            refine AWI.e rfl (Stp.store 0 Try.sizeOf3 (lk rfl) (lk rfl) rfl rfl rfl rfl rfl rfl rfl ?_)
            refine AW.done (by decide +kernel) ?_
            refine Joint.goK [0, 0, 0, 0, 0, 0] () rfl rfl rfl trivial rfl rfl trivial
          · refine AWI.e rfl (Stp.store 0 Try.sizeOf3 (lk rfl) (lk rfl) rfl rfl rfl rfl rfl rfl rfl ?_)
            refine AW.more [9] (by decide +kernel) rfl ⟨?_, trivial⟩
            refine AWI.d rfl (Det.ld Try.isAgg3 (lk rfl) (Rd.ow 3 rfl rfl)) rfl ?_
            refine AW.u 12 rfl (by decide +kernel) (Dtu.fld fa24_4 (lk rfl)) rfl ?_
            refine AW.more [13] (by decide +kernel) rfl ⟨?_, trivial⟩
            refine AWI.e rfl (Stp.store 0 Try.sizeOf3 (lk rfl) (lk rfl) rfl rfl rfl rfl rfl rfl rfl ?_)
            refine AW.done (by decide +kernel) ?_
            refine Joint.goK [0, 0, 0, 0, 0, 0] () rfl rfl rfl trivial rfl rfl trivial
        · refine AWI.d rfl (Det.ld Try.isAgg3 (lk rfl) (Rd.ow 3 rfl rfl)) rfl ?_
          refine AW.more [4] (by decide +kernel) rfl ⟨?_, trivial⟩
          refine AWI.d rfl (Det.ld Try.isAgg3 (lk rfl) (Rd.ow 3 rfl rfl)) rfl ?_
          refine AW.u 10 rfl (by decide +kernel) (Dtu.fld fa24_3 (lk rfl)) rfl ?_
          refine AW.more [11] (by decide +kernel) rfl ⟨?_, trivial⟩
          refine AWI.e rfl (Stp.store 0 Try.sizeOf3 (lk rfl) (lk rfl) rfl rfl rfl rfl rfl rfl rfl ?_)
          refine AW.u 12 rfl (by decide +kernel) (Dtu.fld fa24_4 (lk rfl)) rfl ?_
          refine AW.more [13] (by decide +kernel) rfl ⟨?_, trivial⟩
          refine AWI.e rfl (Stp.store 0 Try.sizeOf3 (lk rfl) (lk rfl) rfl rfl rfl rfl rfl rfl rfl ?_)
          refine AW.done (by decide +kernel) ?_
          refine Joint.goK [0, 0, 0, 0, 0, 0] () rfl rfl rfl trivial rfl rfl trivial
      · rw [if_neg hx, if_neg hx]
        refine Body.seq ?_
        refine Body.draw mixed ?_
        refine AB.d 0 rfl (by decide +kernel) rfl (Det.lda Try.isAgg24 Try.sizeOf24 (lk rfl) (Rds.ow (m := 6) 0 rfl rfl) rfl) rfl ?_
        refine AB.u 1 rfl (by decide +kernel) (Dtu.mv (lk rfl)) rfl ?_
        refine AB.u 2 rfl (by decide +kernel) (Dtu.nilck (lk rfl)) rfl ?_
        refine AB.u 3 rfl (by decide +kernel) (Dtu.fld fa156_3 (lk rfl)) rfl ?_
        refine AB.u 4 rfl (by decide +kernel) (Dtu.fld fa154_0 (lk rfl)) rfl ?_
        refine AB.d 5 rfl (by decide +kernel) rfl (Det.ld Try.isAgg3 (lk rfl) (Rd.ow 3 rfl rfl)) rfl ?_
        refine AB.u 6 rfl (by decide +kernel) (Dtu.mv (lk rfl)) rfl ?_
        refine AB.u 7 rfl (by decide +kernel) (Dtu.nilck (lk rfl)) rfl ?_
        refine AB.u 8 rfl (by decide +kernel) (Dtu.fld fa156_3 (lk rfl)) rfl ?_
        refine AB.u 9 rfl (by decide +kernel) (Dtu.fld fa154_1 (lk rfl)) rfl ?_
        refine AB.d 10 rfl (by decide +kernel) rfl (Det.ld Try.isAgg3 (lk rfl) (Rd.ow 3 rfl rfl)) rfl ?_
        refine AB.s 11 rfl (by decide +kernel) (by decide +kernel) (Stp.call rfl Try.call102 (lks rfl) (fun E' le hat => eindex_ok E' _ _ _ _ _ _ _ _ _ _ (by omega)) ?_) rfl
        rintro _ _ ⟨rfl, rfl⟩
        refine AB.u 12 rfl (by decide +kernel) (Dtu.geq (lk rfl) (lk rfl)) rfl ?_
        refine AB.done (by decide +kernel) ?_
        refine Then.next ?_
        refine Body.condP (lk rfl) (fun hy => absurd hy (by first | omega | assumption | decide)) (fun _ => ?_)
        refine Body.skip ?_
        refine Joint.goK [0, 0, 0, 0, 0, 0] () rfl rfl rfl trivial rfl rfl trivial
    · rintro ⟨⟩ u _
      refine Body.seq ?_
      refine Body.region ?_
      refine Ops.d (Det.lda Try.isAgg24 Try.sizeOf24 (lk rfl) (Rds.ow (m := 6) 0 rfl rfl) rfl) rfl ?_
      refine Ops.e (Stp.store 2 Try.sizeOf24 (lk rfl) (lk rfl) rfl rfl rfl rfl rfl rfl rfl ?_)
      refine Ops.u (Dtu.asg (lk rfl)) rfl ?_
      refine Ops.nil ?_
      refine Then.next ?_
      refine Body.ret ?_
      exact ⟨.inr rfl, _, Loads.agg Try.isAgg24 Try.sizeOf24 (Rds.ow (m := 6) 2 rfl rfl) rfl, _, pk [3, 3, 3, 1] rfl, na, nm, nc, rfl, rfl⟩
end Go.Proofs.Ytijjjdljdjnbaaa
end
section
/- Guesses: the fixed calls. -/
namespace Go.Proofs.Ytijjjdljdjnbaaa
set_option maxRecDepth 100000
set_option linter.unusedVariables false
set_option linter.unusedSimpArgs false
open Go.Sx

theorem enew_ok (E : Env) : Does Try.prog 49 #[] E [] fun r H' => ∃ (b : Nat) (a : Option Addr) (m c : Nat), r = .pointer (some ⟨b, 0, none⟩) ∧ H' = EOwn3 b Ech.new a m c none 0 0 := by
  refine Does.go (args := []) _ _ Try.func49 rfl Try.ntmps49 rfl rfl ?_
  refine Body.seq ?_
  refine Body.region ?_
  refine Ops.u (Dtu.asg (lk rfl)) rfl ?_
  refine Ops.nil ?_
  refine Then.next ?_
  refine Body.seq ?_
  refine Body.region ?_
  refine Ops.s (Stp.call rfl Try.call50 (lks rfl) (fun E' le hat => sfirst_ok E') ?_) rfl
  rintro _ _ ⟨fa2, fm2, fc2, rfl, rfl⟩
  refine Ops.u (Dtu.build ty156 pl156 (lkp rfl) rfl rfl) rfl ?_
  refine Ops.s (Stp.box (lk rfl) rfl (fun b4 => ?_)) rfl
  refine Ops.u (Dtu.asg (lk rfl)) rfl ?_
  refine Ops.nil ?_
  refine Then.next ?_
  refine Body.seq ?_
  refine Body.region ?_
  refine Ops.u (Dtu.mv (lk rfl)) rfl ?_
  refine Ops.s (Stp.callOwn [0] rfl rfl Try.call91 (lks rfl) (fun E' le hat => erest_ok E' b4 Ech.new fa2 fm2 fc2 none 0 0) ?_) rfl
  rintro _ _ rfl
  refine Ops.nil ?_
  refine Then.next ?_
  refine Body.seq ?_
  refine Body.region ?_
  refine Ops.u (Dtu.mv (lk rfl)) rfl ?_
  refine Ops.u (Dtu.asg (lk rfl)) rfl ?_
  refine Ops.nil ?_
  refine Then.next ?_
  refine Body.ret ?_
  exact ⟨.inr rfl, _, fun w s => (pkN [0, 0] 4 rfl w s).perm (List.Perm.cons _ (List.Perm.swap _ _ _)), b4, fa2, fm2, fc2, rfl, rfl⟩
/-- a row of five cells with a text -/
def wideC (ns : List Int) (i : Nat) : List Cell := (List.range i).foldl (fun cs j => cs.set j ⟨ns[j]!, cs[j]!.fl, cs[j]!.fg, cs[j]!.bg⟩) (List.replicate 5 (View.first.cells[0]!))
def wideS (s : ByteArray) : Stt := ⟨⟨1, 5, wideC (numsOf s) s.size, 0, s.size, true⟩, ⟨#[]⟩, ⟨#[]⟩, 0, 0⟩
theorem wideC_len (ns : List Int) : ∀ i, (wideC ns i).length = 5
  | 0 => rfl
  | i + 1 => by
    have := wideC_len ns i
    unfold wideC at this ⊢
    rw [List.range_succ, List.foldl_append]
    simpa using this
theorem wide_ok (E : Env) (s : ByteArray) (hs : s.size ≤ 4) : Does Try.prog 92 #[.string s] E [] fun r H' => ∃ (a : Option Addr) (m c : Nat), r = (wideS s).val (.slice a m c) ∧ H' = [osl 55 4 (.slice a m c) 5 ((wideS s).v.cells.flatMap Cell.enc)] := by
  refine Does.go (args := [.string s]) _ _ Try.func92 rfl Try.ntmps92 rfl rfl ?_
  refine Body.seq ?_
  refine Body.region ?_
  refine Ops.s (Stp.alloc ty77 (fun b2 => ?_)) rfl
  refine Ops.nil ?_
  refine Then.next ?_
  refine Body.seq ?_
  refine Body.region ?_
  refine Ops.s (Stp.call rfl Try.call50 (lks rfl) (fun E' le hat => sfirst_ok E') ?_) rfl
  rintro _ _ ⟨fa5, fm5, fc5, rfl, rfl⟩
  refine Ops.s (Stp.alloc ty77 (fun b3 => ?_)) rfl
  refine Ops.e (Stp.store 0 Try.sizeOf77 (lk rfl) (lk rfl) rfl rfl rfl rfl rfl rfl rfl ?_)
  refine Ops.nil ?_
  refine Then.next ?_
  refine Body.seq ?_
  refine Body.region ?_
  refine Ops.u (Dtu.fld fa77_0 (lk rfl)) rfl ?_
  refine Ops.u (Dtu.fld fa24_1 (lk rfl)) rfl ?_
  refine Ops.e (Stp.store 0 Try.sizeOf3 (lk rfl) (lk rfl) rfl rfl rfl rfl rfl rfl rfl ?_)
  refine Ops.nil ?_
  refine Then.next ?_
  refine Body.seq ?_
  refine Body.block ?_
  refine Body.loopF (γ := Nat × Option Addr × Nat × Nat) rfl (fun _ => []) (fun g => [own b3 [.int .i64 1, .int .i64 5, .slice g.2.1 g.2.2.1 g.2.2.2, .int .i64 0, .int .i64 0, .bool true, .string ⟨#[]⟩, .string ⟨#[]⟩, .int .u64 0, .int .u64 0] 77, osl 55 4 (.slice g.2.1 g.2.2.1 g.2.2.2) g.1 ((List.replicate g.1 (View.first.cells[0]!)).flatMap Cell.enc), own b2 [.int .i64 0, .int .i64 0, .slice none 0 0, .int .i64 0, .int .i64 0, .bool false, .string ⟨#[]⟩, .string ⟨#[]⟩, .int .u64 0, .int .u64 0] 77]) (fun g => 1 ≤ g.1 ∧ g.1 ≤ 5) (fun g => 5 - g.1) (1, fa5, fm5, fc5) ⟨Nat.le_refl 1, by dsimp only; omega⟩ trivial rfl ?_
  rintro ⟨k, fa, fm, fc⟩ u ⟨k1, k2⟩
  dsimp only at k1 k2 ⊢
  by_cases hk : k < 5
  · generalize hR : List.replicate k (View.first.cells[0]!) = R
    have hrl : R.length = k := by rw [← hR, List.length_replicate]
    have hr0 : R[0]! = View.first.cells[0]! := by rw [getElem!_pos _ 0 (by omega)]; simp only [← hR, List.getElem_replicate]
    refine Body.seq ?_
    refine Body.seq ?_
    refine Body.region ?_
    refine Ops.u (Dtu.fld fa77_0 (lk rfl)) rfl ?_
    refine Ops.u (Dtu.fld fa24_2 (lk rfl)) rfl ?_
    refine Ops.d (Det.ld Try.isAgg22 (lk rfl) (Rd.ow 0 rfl rfl)) rfl ?_
    refine Ops.u (Dtu.lenS Try.underlying22 (Sl.osl 1 rfl) (lk rfl)) rfl ?_
    refine Ops.u (Dtu.lss (lk rfl) (lk rfl)) rfl ?_
    refine Ops.nil ?_
    refine Then.next ?_
    refine Body.condP (lk rfl) (fun _ => ?_) (fun hn => absurd (by first | omega | assumption | decide) hn)
    refine Body.skip ?_
    refine Then.next ?_
    refine Body.block ?_
    refine Body.draw mixed ?_
    refine AB.u 0 rfl (by decide +kernel) (Dtu.fld fa77_0 (lk rfl)) rfl ?_
    refine AB.u 1 rfl (by decide +kernel) (Dtu.fld fa24_2 (lk rfl)) rfl ?_
    refine AB.d 2 rfl (by decide +kernel) rfl (Det.ld Try.isAgg22 (lk rfl) (Rd.ow 0 rfl rfl)) rfl ?_
    refine AB.u 3 rfl (by decide +kernel) (Dtu.fld fa77_0 (lk rfl)) rfl ?_
    refine AB.u 4 rfl (by decide +kernel) (Dtu.fld fa24_2 (lk rfl)) rfl ?_
    refine AB.d 5 rfl (by decide +kernel) rfl (Det.ld Try.isAgg22 (lk rfl) (Rd.ow 0 rfl rfl)) rfl ?_
    refine AB.u 6 rfl (by decide +kernel) (Dtu.ix (i := 0) Try.underlying22 Try.sizeOf55 (Sl.osl 1 rfl) (lk rfl) (lk rfl) (by omega) (by omega)) rfl ?_
    refine AB.d 7 rfl (by decide +kernel) rfl (Det.lda Try.isAgg55 Try.sizeOf55 (lk rfl) (Rds.sl (Sl.osl 1 rfl) (gf (sz := 4) (fun _ => rfl) (by omega))) rfl) rfl ?_
    refine AB.s 8 rfl (by decide +kernel) (by decide +kernel) (Stp.buildSliceO Try.underlying22 ty55 (by decide) (by decide) (lkp rfl) rfl rfl rfl (by decide) (fun v21 => ?_)) rfl
    refine AB.s 9 rfl (by decide +kernel) (by decide +kernel) (Stp.append 2 Try.underlying22 ty55 rfl rfl (lk rfl) (lk rfl) (Sl.osl 0 rfl) (by first | rfl | exact all_map (fun _ => rfl) _ | exact all_flat (fun _ => rfl) _) (by omega) (by omega) (fun v22 => ?_)) rfl
    refine AB.u 10 rfl (by decide +kernel) (Dtu.fld fa77_0 (lk rfl)) rfl ?_
    refine AB.u 11 rfl (by decide +kernel) (Dtu.fld fa24_2 (lk rfl)) rfl ?_
    refine AB.pure (Sl.isSl (Sl.osl 2 rfl)) fun hslv22 => ?_
    obtain ⟨v22a, v22m, v22c, rfl⟩ := hslv22
    refine AB.e 12 rfl (by decide +kernel) (by decide +kernel) (Stp.store 1 Try.sizeOf22 (lk rfl) (lk rfl) rfl rfl rfl rfl rfl rfl rfl ?_)
    refine AB.done (by decide +kernel) ?_
    refine Blk.norm ?_
    refine Round.goK [1, 1, 1] (k + 1, v22a, v22m, v22c) rfl rfl rfl trivial rfl (by dsimp only; rw [List.replicate_succ', hR, List.flatMap_append, hr0]; rfl) ⟨by dsimp only; omega, by dsimp only; omega⟩ (by dsimp only; omega)
  · obtain rfl : k = 5 := by omega
    refine Body.seq ?_
    refine Body.seq ?_
    refine Body.region ?_
    refine Ops.u (Dtu.fld fa77_0 (lk rfl)) rfl ?_
    refine Ops.u (Dtu.fld fa24_2 (lk rfl)) rfl ?_
    refine Ops.d (Det.ld Try.isAgg22 (lk rfl) (Rd.ow 0 rfl rfl)) rfl ?_
    refine Ops.u (Dtu.lenS Try.underlying22 (Sl.osl 1 rfl) (lk rfl)) rfl ?_
    refine Ops.u (Dtu.lss (lk rfl) (lk rfl)) rfl ?_
    refine Ops.nil ?_
    refine Then.next ?_
    refine Body.condP (lk rfl) (fun hy => absurd hy (by first | omega | assumption | decide)) (fun _ => ?_)
    refine Body.exit ?_
    refine Then.exit ?_
    refine Round.exit ?_
    refine Blk.here ?_
    refine Then.next ?_
    refine Body.seq ?_
    refine Body.seq ?_
    refine Body.region ?_
    refine Ops.u (Dtu.asg (lk rfl)) rfl ?_
    refine Ops.nil ?_
    refine Then.next ?_
    refine Body.block ?_
    refine Body.loopF (γ := Nat) rfl (fun i => [(4, .int .i64 i)]) (fun i => [own b3 [.int .i64 1, .int .i64 5, .slice fa fm fc, .int .i64 0, .int .i64 i, .bool true, .string ⟨#[]⟩, .string ⟨#[]⟩, .int .u64 0, .int .u64 0] 77, osl 55 4 (.slice fa fm fc) 5 ((wideC (numsOf s) i).flatMap Cell.enc), own b2 [.int .i64 0, .int .i64 0, .slice none 0 0, .int .i64 0, .int .i64 0, .bool false, .string ⟨#[]⟩, .string ⟨#[]⟩, .int .u64 0, .int .u64 0] 77]) (fun i => i ≤ s.size) (fun i => s.size - i) 0 (Nat.zero_le _) ⟨rfl, trivial⟩ rfl ?_
    intro i u hi
    have hwl := wideC_len (numsOf s) i
    have hws : wideC (numsOf s) (i + 1) = (wideC (numsOf s) i).set i ⟨(numsOf s)[i]!, (wideC (numsOf s) i)[i]!.fl, (wideC (numsOf s) i)[i]!.fg, (wideC (numsOf s) i)[i]!.bg⟩ := by
      unfold wideC
      rw [List.range_succ, List.foldl_append]; rfl
    by_cases hlt : i < s.size
    · generalize hW : wideC (numsOf s) i = W at *
      have hbt := numsOf_byt s i (by rw [numsOf_len]; exact hlt)
      refine Body.seq ?_
      refine Body.seq ?_
      refine Body.region ?_
      refine Ops.u (Dtu.mv (lk rfl)) rfl ?_
      refine Ops.u (Dtu.mv (lk rfl)) rfl ?_
      refine Ops.u (Dtu.lenStr Try.underlying9 (lk rfl)) rfl ?_
      refine Ops.u (Dtu.lss (lk rfl) (lk rfl)) rfl ?_
      refine Ops.u (Dtu.mv (lk rfl)) rfl ?_
      refine Ops.decP 29 rfl (fun _ => ?_) (fun hn => absurd (by first | omega | assumption | decide) hn)
      refine Ops.gu rfl rfl rfl (Dtu.mv (lk rfl)) rfl ?_
      refine Ops.gu rfl rfl rfl (Dtu.lss (lk rfl) (lk rfl)) rfl ?_
      refine Ops.u (Dtu.pickT (lk rfl) (lk rfl)) rfl ?_
      refine Ops.nil ?_
      refine Then.next ?_
      refine Body.condP (lk rfl) (fun _ => ?_) (fun hn => absurd (by first | omega | assumption | decide) hn)
      refine Body.skip ?_
      refine Then.next ?_
      refine Body.seq ?_
      refine Body.block ?_
      refine Body.seq ?_
      refine Body.draw mixed ?_
      refine AB.u 0 rfl (by decide +kernel) (Dtu.fld fa77_0 (lk rfl)) rfl ?_
      refine AB.u 1 rfl (by decide +kernel) (Dtu.fld fa24_2 (lk rfl)) rfl ?_
      refine AB.d 2 rfl (by decide +kernel) rfl (Det.ld Try.isAgg22 (lk rfl) (Rd.ow 0 rfl rfl)) rfl ?_
      refine AB.u 3 rfl (by decide +kernel) (Dtu.mv (lk rfl)) rfl ?_
      refine AB.u 4 rfl (by decide +kernel) (Dtu.mv (lk rfl)) rfl ?_
      refine AB.u 5 rfl (by decide +kernel) (Dtu.mv (lk rfl)) rfl ?_
      refine AB.u 6 rfl (by decide +kernel) (Dtu.ixStr (i) Try.underlying9 (lk rfl) (lk rfl) (by omega) (by omega)) rfl ?_
      refine AB.u 7 rfl (by decide +kernel) (Dtu.cvt Try.underlying5 Try.underlying21 (lk rfl) (w32 (by omega) (by omega))) rfl ?_
      refine AB.u 8 rfl (by decide +kernel) (Dtu.ix (i := (i)) Try.underlying22 Try.sizeOf55 (Sl.osl 1 rfl) (lk rfl) (lk rfl) (by omega) (by omega)) rfl ?_
      refine AB.u 9 rfl (by decide +kernel) (Dtu.fld fa55_0 (lk rfl)) rfl ?_
      refine AB.e 10 rfl (by decide +kernel) (by decide +kernel) (Stp.storeP 1 (en := Cell.enc) (sz := 4) (y := ⟨((numsOf s)[i]!), (W)[i]!.fl, (W)[i]!.fg, (W)[i]!.bg⟩) (fun _ => rfl) [] Try.sizeOf21 rfl (lk rfl) (lk rfl) rfl rfl (by omega) rfl rfl rfl ?_)
      refine AB.done (by decide +kernel) ?_
      refine Then.next ?_
      refine Body.region ?_
      refine Ops.u (Dtu.mv (lk rfl)) rfl ?_
      refine Ops.u (Dtu.add (lk rfl) (lk rfl) (w64 (by omega) (by omega))) rfl ?_
      refine Ops.u (Dtu.fld fa77_0 (lk rfl)) rfl ?_
      refine Ops.u (Dtu.fld fa24_4 (lk rfl)) rfl ?_
      refine Ops.e (Stp.store 0 Try.sizeOf3 (lk rfl) (lk rfl) rfl rfl rfl rfl rfl rfl rfl ?_)
      refine Ops.nil ?_
      refine Blk.norm ?_
      refine Then.next ?_
      refine Body.region ?_
      refine Ops.u (Dtu.mv (lk rfl)) rfl ?_
      refine Ops.u (Dtu.add (lk rfl) (lk rfl) (w64 (by omega) (by omega))) rfl ?_
      refine Ops.u (Dtu.asg (lk rfl)) rfl ?_
      refine Ops.nil ?_
      refine Round.goK [0, 0, 0] (i + 1) rfl rfl rfl ⟨int_eq (by simp), trivial⟩ rfl (by rw [hws]; rfl) (by omega) (by omega)
    · obtain rfl : i = s.size := by omega
      refine Body.seq ?_
      refine Body.seq ?_
      refine Body.region ?_
      refine Ops.u (Dtu.mv (lk rfl)) rfl ?_
      refine Ops.u (Dtu.mv (lk rfl)) rfl ?_
      refine Ops.u (Dtu.lenStr Try.underlying9 (lk rfl)) rfl ?_
      refine Ops.u (Dtu.lss (lk rfl) (lk rfl)) rfl ?_
      refine Ops.u (Dtu.mv (lk rfl)) rfl ?_
      refine Ops.decP 29 rfl (fun hy => absurd hy (by first | omega | assumption | decide)) (fun _ => ?_)
      refine Ops.gn rfl rfl rfl rfl rfl ?_
      refine Ops.gn rfl rfl rfl rfl rfl ?_
      refine Ops.u (Dtu.pickF (lk rfl) (lk rfl)) rfl ?_
      refine Ops.nil ?_
      refine Then.next ?_
      refine Body.condF (lk rfl) ?_
      refine Body.exit ?_
      refine Then.exit ?_
      refine Round.exit ?_
      refine Blk.here ?_
      refine Then.next ?_
      refine Body.seq ?_
      refine Body.region ?_
      refine Ops.d (Det.lda Try.isAgg77 Try.sizeOf77 (lk rfl) (Rds.ow (m := 10) 0 rfl rfl) rfl) rfl ?_
      refine Ops.e (Stp.store 2 Try.sizeOf77 (lk rfl) (lk rfl) rfl rfl rfl rfl rfl rfl rfl ?_)
      refine Ops.nil ?_
      refine Then.next ?_
      refine Body.ret ?_
      exact ⟨.inr rfl, _, Loads.agg Try.isAgg77 Try.sizeOf77 (Rds.ow (m := 10) 2 rfl rfl) rfl, _, pk [1] rfl, fa, fm, fc, rfl, rfl⟩
end Go.Proofs.Ytijjjdljdjnbaaa
end
section
/- Guesses: the fixed calls of longlinelaw35.alive. -/
namespace Go.Proofs.Ytijjjdljdjnbaaa
set_option maxRecDepth 100000
set_option linter.unusedVariables false
set_option linter.unusedSimpArgs false
open Go.Sx

theorem enew_Ok : Ech.new.Ok 0 := ⟨sfirst_ok', first_fl, (by unfold Cell.Cols; decide), by decide, (fun g hg => by cases hg), by decide, by decide, by decide, by decide, by decide⟩
theorem enew_Z : Ech.new.Z := fun _ => ⟨rfl, rfl⟩
def w0 : Stt := wideS ⟨#[]⟩
def w1 : Stt := wideS ⟨#[97]⟩
theorem w0_ok : w0.ok = true := by decide +kernel
theorem w1_ok : w1.ok = true := by decide +kernel
theorem w0_fl : ∀ c ∈ w0.v.cells, c.Fl ∧ c.Cols := by unfold Cell.Fl Cell.Cols; decide +kernel
theorem w1_fl : ∀ c ∈ w1.v.cells, c.Fl ∧ c.Cols := by unfold Cell.Fl Cell.Cols; decide +kernel
/-- what comes of the calls, one behind the other -/
def al1 : Ech := Ech.new.see w0 0
def al2 : Ech := al1.type [97, 98]
def al3 : Ech := al2.see w1 1
theorem al1_eq : Ech.new.see w0 0 = al1 := rfl
theorem al2_eq : al1.type [97, 98] = al2 := rfl
theorem al3_eq : al2.see w1 1 = al3 := rfl
theorem al1_Ok : al1.Ok 64 := al1_eq ▸ enew_Ok.see 0 w0_ok (fun c h => (w0_fl c h).1) (fun c h => (w0_fl c h).2)
theorem al2_Ok : al2.Ok 66 := al2_eq ▸ Ech.Ok.type [97, 98] al1_Ok
theorem al2_gs : al2.gs.length = 2 := by decide +kernel
theorem al2_show : al2.show.cells.length = 5 ∧ al2.show.cells[1]!.pt = 98 ∧ al2.show.cells[1]!.fl = 8 ∧ al2.show.col = 2 := by decide +kernel
theorem al3_is : al3.hits = 1 ∧ al3.gs.length = 1 ∧ al3.misses = 0 := by decide +kernel
theorem ali_hw0 : ∀ (E' : Env), Does Try.prog 92 #[.string ⟨#[]⟩] E' [] fun r H' => ∃ (a : Option Addr) (m c : Nat), r = w0.val (.slice a m c) ∧ H' = [osl 55 4 (.slice a m c) w0.v.cells.length (w0.v.cells.flatMap Cell.enc)] := fun E' => by
    have := wide_ok E' ⟨#[]⟩ (by decide)
    have e : w0.v.cells.length = 5 := wideC_len _ _
    rw [e]; exact this
theorem ali_hw1 : ∀ (E' : Env), Does Try.prog 92 #[.string ⟨#[97]⟩] E' [] fun r H' => ∃ (a : Option Addr) (m c : Nat), r = w1.val (.slice a m c) ∧ H' = [osl 55 4 (.slice a m c) w1.v.cells.length (w1.v.cells.flatMap Cell.enc)] := fun E' => by
    have := wide_ok E' ⟨#[97]⟩ (by decide)
    have e : w1.v.cells.length = 5 := wideC_len _ _
    rw [e]; exact this
theorem ali_h1 : ∀ (E' : Env) (b : Nat) (a : Option Addr) (m c : Nat) (p : Option Addr) (q k : Nat) (v : Value) (hs : w0.v.has E' [] v), Does Try.prog 53 #[.pointer (some ⟨b, 0, none⟩), w0.val v, .int .u64 0] E' (EOwn3 b Ech.new a m c p q k) fun r H' => r = .int .i64 0 ∧ ∃ (a' : Option Addr) (m' c' : Nat) (p' : Option Addr) (q' k' : Nat), H' = EOwn3 b al1 a' m' c' p' q' k' := fun E' b a m c p q k v hs => by
      have := esee_ok E' b Ech.new 0 enew_Ok (by omega) a m c p q k w0 v 0 hs w0_ok (fun c h => (w0_fl c h).1)
      rw [al1_eq] at this; exact this
theorem ali_h2 : ∀ (E' : Env) (b : Nat) (a : Option Addr) (m c : Nat) (p : Option Addr) (q k : Nat) (s : Value) (hs : Sl E' [] 1 s 2 (([97, 98] : List Int).map (.int .u8))), Does Try.prog 52 #[.pointer (some ⟨b, 0, none⟩), s] E' (EOwn b al1 (.slice a m c) p q k) fun r H' => r = .int .i64 0 ∧ ∃ (p' : Option Addr) (q' k' : Nat), H' = EOwn b al2 (.slice a m c) p' q' k' := fun E' b a m c p q k s hs => by
      have := etype_ok E' b al1 64 al1_Ok a m c p q k s [97, 98] hs (BytM.byt (by unfold BytM; decide)) (by decide)
      rw [al2_eq] at this; exact this
theorem ali_h3 : ∀ (E' : Env) (b : Nat) (a : Option Addr) (m c : Nat) (p : Option Addr) (q k : Nat) (v : Value) (hs : w1.v.has E' [] v), Does Try.prog 53 #[.pointer (some ⟨b, 0, none⟩), w1.val v, .int .u64 1] E' (EOwn3 b al2 a m c p q k) fun r H' => r = .int .i64 0 ∧ ∃ (a' : Option Addr) (m' c' : Nat) (p' : Option Addr) (q' k' : Nat), H' = EOwn3 b al3 a' m' c' p' q' k' := fun E' b a m c p q k v hs => by
      have := esee_ok E' b al2 66 al2_Ok (by omega) a m c p q k w1 v 1 hs w1_ok (fun c h => (w1_fl c h).1)
      rw [al3_eq] at this; exact this
end Go.Proofs.Ytijjjdljdjnbaaa
end
section
/- Guesses: the fixed calls of longlinelaw35.alive, the walk. -/
namespace Go.Proofs.Ytijjjdljdjnbaaa
set_option maxRecDepth 100000
set_option linter.unusedVariables false
set_option linter.unusedSimpArgs false
open Go.Sx

set_option maxHeartbeats 3200000 in
theorem alive35_ok (E : Env) : Does Try.prog 51 #[] E [] fun r H' => r = .bool true ∧ H' = [] := by
  have hO2 := al2_Ok
  have hO3 : al3.Ok 130 := al3_eq ▸ al2_Ok.see 1 w1_ok (fun c h => (w1_fl c h).1) (fun c h => (w1_fl c h).2)
  have hw0 := ali_hw0
  have hw1 := ali_hw1
  have h1 := ali_h1
  have h2 := ali_h2
  have h3 := ali_h3
  have hse : al1.seen = al2.seen := by rw [← al2_eq, type_seen]
  have g2 := al2_gs
  have gsh := al2_show
  have g3 := al3_is
  have hN0 := fun (E' : Env) => enew_ok E'
  generalize Ech.new = e0 at *
  generalize w0 = W0 at *
  generalize w1 = W1 at *
  generalize al1 = e1 at *
  generalize al2 = e2 at *
  generalize al3 = e3 at *
  refine Does.go (args := []) _ _ Try.func51 rfl Try.ntmps51 rfl rfl ?_
  refine Body.seq ?_
  refine Body.region ?_
  refine Ops.u (Dtu.asg (lk rfl)) rfl ?_
  refine Ops.nil ?_
  refine Then.next ?_
  refine Body.seq ?_
  refine Body.region ?_
  refine Ops.s (Stp.call rfl Try.call49 (lks rfl) (fun E' le hat => hN0 E') ?_) rfl
  rintro _ _ ⟨nb, na, nm, nc, rfl, rfl⟩
  refine Ops.u (Dtu.asg (lk rfl)) rfl ?_
  refine Ops.nil ?_
  refine Then.next ?_
  refine Body.seq ?_
  refine Body.seq ?_
  refine Body.region ?_
  refine Ops.s (Stp.call rfl Try.call50 (lks rfl) (fun E' le hat => sfirst_ok E') ?_) rfl
  rintro _ _ ⟨fa9, fm9, fc9, rfl, rfl⟩
  refine Ops.u (Dtu.fielda fo77_0 (lk rfl) rfl) rfl ?_
  refine Ops.u (Dtu.fieldv fo24_2 (lk rfl) rfl) rfl ?_
  refine Ops.u (Dtu.lenS Try.underlying22 (Sl.osl 0 rfl) (lk rfl)) rfl ?_
  refine Ops.u (Dtu.neq (lk rfl) (lk rfl)) rfl ?_
  refine Ops.nil ?_
  refine Then.next ?_
  refine Body.condP (lk rfl) (fun hy => absurd hy (by first | omega | assumption | decide)) (fun _ => ?_)
  refine Body.skip ?_
  refine Then.next ?_
  refine Body.seq ?_
  refine Body.region ?_
  refine Ops.u (Dtu.mv (lk rfl)) rfl ?_
  refine Ops.s (Stp.call rfl Try.call92 (lks rfl) (fun E' le hat => hw0 E') ?_) rfl
  rintro _ _ ⟨xa15, xm15, xc15, rfl, rfl⟩
  refine Ops.s (Stp.callOwn [2, 2, 2] rfl rfl Try.call53 (lks rfl) (fun E' le hat => h1 E' _ _ _ _ _ _ _ _ (Sl.at (t := 55) (hat _ (by simp)))) ?_) rfl
  rintro _ _ ⟨rfl, sa16, sm16, sc16, sp16, sq16, sk16, rfl⟩
  refine Ops.u (Dtu.asg (lk rfl)) rfl ?_
  refine Ops.nil ?_
  refine Then.next ?_
  refine Body.seq ?_
  refine Body.region ?_
  refine Ops.u (Dtu.mv (lk rfl)) rfl ?_
  refine Ops.s (Stp.buildSliceO Try.underlying32 ty5 (by decide) (by decide) (lkp rfl) rfl rfl rfl (by decide) (fun v18 => ?_)) rfl
  refine Ops.s (Stp.cvtMark 0 Try.underlying32 Try.underlying5 rfl (by omega) (lk rfl) rfl ?_) rfl
  refine Ops.s (Stp.callOwn [1, 1] rfl rfl Try.call52 (lks rfl) (fun E' le hat => h2 E' _ _ _ _ _ _ _ _ (Sl.atR (hat _ (by simp)))) ?_) rfl
  rintro _ _ ⟨rfl, sp20, sq20, sk20, rfl⟩
  refine Ops.u (Dtu.asg (lk rfl)) rfl ?_
  refine Ops.nil ?_
  refine Then.next ?_
  refine Body.seq ?_
  refine Body.region ?_
  refine Ops.u (Dtu.mv (lk rfl)) rfl ?_
  refine Ops.conseq (H' := EOwn3 nb e2 sa16 sm16 sc16 sp20 sq20 sk20) (fun w s => ?_) ?_
  · have h := pk [0, 0, 1] rfl w s
    unfold EOwn3
    rw [← hse]
    exact h
  obtain ⟨gs1, gs2, gs3, gs4⟩ := gsh
  obtain ⟨ga1, ga2, ga3⟩ := g3
  refine Ops.s (Stp.callOwn [0, 0, 0] rfl rfl Try.call54 (lks rfl) (fun E' le hat => eshow_ok E' _ e2 66 hO2 _ _ _ _ _ _) ?_) rfl
  rintro _ _ ⟨sa23, sm23, sc23, rfl, rfl⟩
  refine Ops.u (Dtu.mv (lk rfl)) rfl ?_
  refine Ops.u (Dtu.ext (lk rfl) rfl) rfl ?_
  refine Ops.u (Dtu.ext (lk rfl) rfl) rfl ?_
  refine Ops.s (Stp.alloc ty24 (fun b4 => ?_)) rfl
  refine Ops.e (Stp.store 0 Try.sizeOf24 (lk rfl) (lk rfl) rfl rfl rfl rfl rfl rfl rfl ?_)
  refine Ops.u (Dtu.asg (lk rfl)) rfl ?_
  refine Ops.nil ?_
  refine Then.next ?_
  refine Body.seq ?_
  refine Body.region ?_
  refine Ops.u (Dtu.mv (lk rfl)) rfl ?_
  refine Ops.s (Stp.callOwn [1, 1] rfl rfl Try.call56 (lks rfl) (fun E' le hat => eguesses_ok E' _ e2 _ _ _ _ hO2.n) ?_) rfl
  rintro _ _ ⟨sa27, sm27, sc27, rfl, rfl⟩
  refine Ops.u (Dtu.lenS Try.underlying102 (Sl.osl 2 rfl) (lk rfl)) rfl ?_
  refine Ops.u (Dtu.asg (lk rfl)) rfl ?_
  refine Ops.nil ?_
  refine Then.next ?_
  refine Body.seq ?_
  refine Body.region ?_
  refine Ops.u (Dtu.mv (lk rfl)) rfl ?_
  refine Ops.s (Stp.call rfl Try.call92 (lks rfl) (fun E' le hat => hw1 E') ?_) rfl
  rintro _ _ ⟨xa30, xm30, xc30, rfl, rfl⟩
  refine Ops.s (Stp.callOwn [1, 1, 3] rfl rfl Try.call53 (lks rfl) (fun E' le hat => h3 E' _ _ _ _ _ _ _ _ (Sl.at (t := 55) (hat _ (by simp)))) ?_) rfl
  rintro _ _ ⟨rfl, sa31, sm31, sc31, sp31, sq31, sk31, rfl⟩
  refine Ops.u (Dtu.asg (lk rfl)) rfl ?_
  refine Ops.nil ?_
  refine Then.next ?_
  refine Body.seq ?_
  refine Body.region ?_
  refine Ops.u (Dtu.mv (lk rfl)) rfl ?_
  refine Ops.u (Dtu.eql (lk rfl) (lk rfl)) rfl ?_
  refine Ops.u (Dtu.mv (lk rfl)) rfl ?_
  refine Ops.decP 34 rfl (fun _ => ?_) (fun hn => absurd (by first | omega | assumption | decide) hn)
  refine Ops.gu rfl rfl rfl (Dtu.mv (lk rfl)) rfl ?_
  refine Ops.gu rfl rfl rfl (Dtu.eql (lk rfl) (lk rfl)) rfl ?_
  refine Ops.u (Dtu.pickT (lk rfl) (lk rfl)) rfl ?_
  refine Ops.u (Dtu.mv (lk rfl)) rfl ?_
  refine Ops.decP 38 rfl (fun _ => ?_) (fun hn => absurd (by first | omega | assumption | decide) hn)
  refine Ops.gu rfl rfl rfl (Dtu.mv (lk rfl)) rfl ?_
  refine Ops.gu rfl rfl rfl (Dtu.eql (lk rfl) (lk rfl)) rfl ?_
  refine Ops.u (Dtu.pickT (lk rfl) (lk rfl)) rfl ?_
  refine Ops.u (Dtu.mv (lk rfl)) rfl ?_
  refine Ops.decP 42 rfl (fun _ => ?_) (fun hn => absurd (by first | omega | assumption | decide) hn)
  refine Ops.gu rfl rfl rfl (Dtu.mv (lk rfl)) rfl ?_
  refine Ops.gu rfl rfl rfl (Dtu.eql (lk rfl) (lk rfl)) rfl ?_
  refine Ops.u (Dtu.pickT (lk rfl) (lk rfl)) rfl ?_
  refine Ops.u (Dtu.mv (lk rfl)) rfl ?_
  refine Ops.decP 46 rfl (fun _ => ?_) (fun hn => absurd (by first | omega | assumption | decide) hn)
  refine Ops.gu rfl rfl rfl (Dtu.fld fa24_2 (lk rfl)) rfl ?_
  refine Ops.gd rfl rfl rfl (Det.ld Try.isAgg22 (lk rfl) (Rd.ow 5 rfl rfl)) rfl ?_
  refine Ops.gu rfl rfl rfl (Dtu.lenS Try.underlying22 (Sl.osl 6 rfl) (lk rfl)) rfl ?_
  refine Ops.gu rfl rfl rfl (Dtu.eql (lk rfl) (lk rfl)) rfl ?_
  refine Ops.u (Dtu.pickT (lk rfl) (lk rfl)) rfl ?_
  refine Ops.u (Dtu.mv (lk rfl)) rfl ?_
  refine Ops.decP 52 rfl (fun _ => ?_) (fun hn => absurd (by first | omega | assumption | decide) hn)
  refine Ops.gu rfl rfl rfl (Dtu.fld fa24_2 (lk rfl)) rfl ?_
  refine Ops.gd rfl rfl rfl (Det.ld Try.isAgg22 (lk rfl) (Rd.ow 5 rfl rfl)) rfl ?_
  refine Ops.gu rfl rfl rfl (Dtu.ix (i := 1) Try.underlying22 Try.sizeOf55 (Sl.osl 6 rfl) (lk rfl) (lk rfl) (by omega) (by omega)) rfl ?_
  refine Ops.gu rfl rfl rfl (Dtu.fld fa55_0 (lk rfl)) rfl ?_
  refine Ops.gd rfl rfl rfl (Det.ld Try.isAgg21 (lk rfl) (Rd.sl2 (Sl.osl 6 rfl) (gfe (sz := 4) (fun _ => rfl) (by omega) rfl))) rfl ?_
  refine Ops.gu rfl rfl rfl (Dtu.eql (lk rfl) (lk rfl)) rfl ?_
  refine Ops.u (Dtu.pickT (lk rfl) (lk rfl)) rfl ?_
  refine Ops.u (Dtu.mv (lk rfl)) rfl ?_
  refine Ops.decP 60 rfl (fun _ => ?_) (fun hn => absurd (by first | omega | assumption | decide) hn)
  refine Ops.gu rfl rfl rfl (Dtu.fld fa24_2 (lk rfl)) rfl ?_
  refine Ops.gd rfl rfl rfl (Det.ld Try.isAgg22 (lk rfl) (Rd.ow 5 rfl rfl)) rfl ?_
  refine Ops.gu rfl rfl rfl (Dtu.ix (i := 1) Try.underlying22 Try.sizeOf55 (Sl.osl 6 rfl) (lk rfl) (lk rfl) (by omega) (by omega)) rfl ?_
  refine Ops.gu rfl rfl rfl (Dtu.fld fa55_1 (lk rfl)) rfl ?_
  refine Ops.gu rfl rfl rfl (Dtu.fld fa53_0 (lk rfl)) rfl ?_
  refine Ops.gd rfl rfl rfl (Det.ld Try.isAgg5 (lk rfl) (Rd.sl2 (Sl.osl 6 rfl) (gfe (sz := 4) (fun _ => rfl) (by omega) rfl))) rfl ?_
  refine Ops.gu rfl rfl rfl (Dtu.eql (lk rfl) (lk rfl)) rfl ?_
  refine Ops.u (Dtu.pickT (lk rfl) (lk rfl)) rfl ?_
  refine Ops.u (Dtu.mv (lk rfl)) rfl ?_
  refine Ops.decP 69 rfl (fun _ => ?_) (fun hn => absurd (by first | omega | assumption | decide) hn)
  refine Ops.gu rfl rfl rfl (Dtu.fld fa24_4 (lk rfl)) rfl ?_
  refine Ops.gd rfl rfl rfl (Det.ld Try.isAgg3 (lk rfl) (Rd.ow 5 rfl rfl)) rfl ?_
  refine Ops.gu rfl rfl rfl (Dtu.eql (lk rfl) (lk rfl)) rfl ?_
  refine Ops.u (Dtu.pickT (lk rfl) (lk rfl)) rfl ?_
  refine Ops.u (Dtu.mv (lk rfl)) rfl ?_
  refine Ops.decP 74 rfl (fun _ => ?_) (fun hn => absurd (by first | omega | assumption | decide) hn)
  refine Ops.gu rfl rfl rfl (Dtu.mv (lk rfl)) rfl ?_
  refine Ops.gu rfl rfl rfl (Dtu.eql (lk rfl) (lk rfl)) rfl ?_
  refine Ops.u (Dtu.pickT (lk rfl) (lk rfl)) rfl ?_
  refine Ops.u (Dtu.mv (lk rfl)) rfl ?_
  refine Ops.decP 78 rfl (fun _ => ?_) (fun hn => absurd (by first | omega | assumption | decide) hn)
  refine Ops.gu rfl rfl rfl (Dtu.mv (lk rfl)) rfl ?_
  refine Ops.gs rfl rfl rfl (Stp.callOwn [0] rfl rfl Try.call93 (lks rfl) (fun E' le hat => ehits_ok E' _ e3 _ _) ?_) rfl
  rintro _ _ ⟨rfl, rfl⟩
  refine Ops.gu rfl rfl rfl (Dtu.eql (lk rfl) (lk rfl)) rfl ?_
  refine Ops.u (Dtu.pickT (lk rfl) (lk rfl)) rfl ?_
  refine Ops.u (Dtu.mv (lk rfl)) rfl ?_
  refine Ops.decP 83 rfl (fun _ => ?_) (fun hn => absurd (by first | omega | assumption | decide) hn)
  refine Ops.gu rfl rfl rfl (Dtu.mv (lk rfl)) rfl ?_
  refine Ops.gs rfl rfl rfl (Stp.callOwn [0, 0] rfl rfl Try.call56 (lks rfl) (fun E' le hat => eguesses_ok E' _ e3 _ _ _ _ hO3.n) ?_) rfl
  rintro _ _ ⟨sa85, sm85, sc85, rfl, rfl⟩
  refine Ops.gu rfl rfl rfl (Dtu.lenS Try.underlying102 (Sl.osl 2 rfl) (lk rfl)) rfl ?_
  refine Ops.gu rfl rfl rfl (Dtu.eql (lk rfl) (lk rfl)) rfl ?_
  refine Ops.u (Dtu.pickT (lk rfl) (lk rfl)) rfl ?_
  refine Ops.u (Dtu.mv (lk rfl)) rfl ?_
  refine Ops.decP 89 rfl (fun _ => ?_) (fun hn => absurd (by first | omega | assumption | decide) hn)
  refine Ops.gu rfl rfl rfl (Dtu.mv (lk rfl)) rfl ?_
  refine Ops.gs rfl rfl rfl (Stp.callOwn [0] rfl rfl Try.call94 (lks rfl) (fun E' le hat => emisses_ok E' _ e3 _ _) ?_) rfl
  rintro _ _ ⟨rfl, rfl⟩
  refine Ops.gu rfl rfl rfl (Dtu.eql (lk rfl) (lk rfl)) rfl ?_
  refine Ops.u (Dtu.pickT (lk rfl) (lk rfl)) rfl ?_
  refine Ops.u (Dtu.asg (lk rfl)) rfl ?_
  refine Ops.nil ?_
  refine Then.next ?_
  refine Body.ret ?_
  exact ⟨.inr rfl, _, pk [] rfl, by first | rfl | exact bool_eq (by simp [*]), rfl⟩
end Go.Proofs.Ytijjjdljdjnbaaa
end
section
/- Guesses: the law function EchoShows. -/
namespace Go.Proofs.Ytijjjdljdjnbaaa
set_option maxRecDepth 100000
set_option linter.unusedVariables false
set_option linter.unusedSimpArgs false
open Go.Sx

/-- a call that comes in -/
structure EOp where
  seen : Bool
  st : Stt
  sa : Option Addr
  sm : Nat
  sc : Nat
  took : Int
  ba : Option Addr
  bm : Nat
  bc : Nat
  bs : List Int
instance : Inhabited EOp := ⟨⟨false, Stt.first, none, 0, 0, 0, none, 0, 0, []⟩⟩
def EOp.enc (o : EOp) : List Value := [.bool o.seen, .int .i64 o.st.v.rows, .int .i64 o.st.v.cols, .slice o.sa o.sm o.sc, .int .i64 o.st.v.row, .int .i64 o.st.v.col, .bool o.st.v.vis, .string o.st.title, .string o.st.clip, .int .u64 o.st.clips, .int .u64 o.st.bells, .int .u64 o.took, .slice o.ba o.bm o.bc]
structure EOp.Has (o : EOp) (E : Env) : Prop where
  s : o.st.v.has E [] (.slice o.sa o.sm o.sc)
  b : Sl E [] 1 (.slice o.ba o.bm o.bc) o.bs.length (o.bs.map (.int .u8))
  bt : Byt o.bs
  f : o.st.Fine
  c : ∀ c ∈ o.st.v.cells, c.Cols
  t0 : 0 ≤ o.took
  t1 : o.took < 18446744073709551616
/-- where the walk stands -/
structure ShG where
  i : Nat
  e : Ech
  a : Option Addr
  m : Nat
  c : Nat
  p : Option Addr
  q : Nat
  k : Nat
  s1 : Option Addr
  s2 : Nat
  s3 : Nat
structure ShG.Ok (E : Env) (n : Nat) (fa : Option Addr) (fm fc : Nat) (g : ShG) : Prop where
  i : g.i ≤ n
  i2 : g.i ≤ 40
  o : g.e.Ok (300 * g.i)
  z : g.e.Z
  s : (g.e.seen = Stt.first ∧ g.s1 = fa ∧ g.s2 = fm ∧ g.s3 = fc) ∨ g.e.seen.v.has E [] (.slice g.s1 g.s2 g.s3)
set_option maxHeartbeats 6400000 in
theorem eshows_ok (E : Env) (v : Value) (ops : List EOp) (h : Sl E [] 13 v ops.length (ops.flatMap EOp.enc)) (ho : ∀ o ∈ ops, o.Has E) : Does Try.prog 14 #[v] E [] fun r H' => r = .bool true ∧ H' = [] := by
  refine Does.pure (Sl.up h).len fun hlen => ?_
  refine Does.go (args := [v]) _ _ Try.func14 rfl Try.ntmps14 rfl rfl ?_
  refine Body.seq ?_
  refine Body.region ?_
  refine Ops.u (Dtu.asg (lk rfl)) rfl ?_
  refine Ops.nil ?_
  refine Then.next ?_
  refine Body.seq ?_
  refine Body.region ?_
  refine Ops.s (Stp.call rfl Try.call49 (lks rfl) (fun E' le hat => enew_ok E') ?_) rfl
  rintro _ _ ⟨nb, na, nm, nc, rfl, rfl⟩
  refine Ops.u (Dtu.asg (lk rfl)) rfl ?_
  refine Ops.nil ?_
  refine Then.next ?_
  refine Body.seq ?_
  refine Body.seq ?_
  refine Body.region ?_
  refine Ops.u (Dtu.mv (lk rfl)) rfl ?_
  refine Ops.u (Dtu.eqNil Try.underlying94 (lk rfl) (lk rfl)) rfl ?_
  refine Ops.nil ?_
  refine Then.next ?_
  refine Body.condF (lk rfl) ?_
  refine Body.skip ?_
  refine Then.next ?_
  refine Body.seq ?_
  refine Body.region ?_
  refine Ops.s (Stp.call rfl Try.call50 (lks rfl) (fun E' le hat => sfirst_ok E') ?_) rfl
  rintro _ _ ⟨fa12, fm12, fc12, rfl, rfl⟩
  refine Ops.s (Stp.alloc ty77 (fun b4 => ?_)) rfl
  refine Ops.e (Stp.store 0 Try.sizeOf77 (lk rfl) (lk rfl) rfl rfl rfl rfl rfl rfl rfl ?_)
  refine Ops.nil ?_
  refine Then.next ?_
  refine Body.seq ?_
  refine Body.seq ?_
  refine Body.region ?_
  refine Ops.u (Dtu.asg (lk rfl)) rfl ?_
  refine Ops.nil ?_
  refine Then.next ?_
  refine Body.block ?_
  refine Body.conseq (pk [0, 1, 1, 1, 0] rfl) ?_
  refine Body.loopF (γ := ShG) rfl (fun g => [(5, .int .i64 g.i)]) (fun g => [own b4 (g.e.seen.cells (.slice g.s1 g.s2 g.s3)) 77, own nb (g.e.cells (.slice g.a g.m g.c) (.slice g.p g.q g.k)) 156, vsl 4 (.slice g.p g.q g.k) g.e.gs.length (g.e.gs.flatMap Gue.enc), osl 55 4 (.slice g.a g.m g.c) g.e.seen.v.cells.length (g.e.seen.v.cells.flatMap Cell.enc), osl 55 4 (.slice fa12 fm12 fc12) 1 (View.first.cells.flatMap Cell.enc)]) (ShG.Ok E ops.length fa12 fm12 fc12) (fun g => ops.length - g.i) ⟨0, Ech.new, na, nm, nc, none, 0, 0, fa12, fm12, fc12⟩ ⟨Nat.zero_le _, by dsimp only; omega, enew_Ok, enew_Z, .inl ⟨rfl, rfl, rfl, rfl⟩⟩ ⟨rfl, trivial⟩ rfl ?_
  rintro ⟨i, e, a, m, c, p, q, k, s1, s2, s3⟩ u ⟨gi, gi2, go, gz, gs⟩
  dsimp only at gi gi2 go gz gs ⊢
  by_cases hlt : i < ops.length ∧ i < 40
  · have hoi := ho ops[i]! (by rw [getElem!_pos ops i hlt.1]; exact List.getElem_mem _)
    refine Body.seq ?_
    refine Body.seq ?_
    refine Body.region ?_
    refine Ops.u (Dtu.mv (lk rfl)) rfl ?_
    refine Ops.u (Dtu.mv (lk rfl)) rfl ?_
    refine Ops.u (Dtu.lenS Try.underlying93 (Sl.up h) (lk rfl)) rfl ?_
    refine Ops.u (Dtu.lss (lk rfl) (lk rfl)) rfl ?_
    refine Ops.u (Dtu.mv (lk rfl)) rfl ?_
    refine Ops.decP 17 rfl (fun _ => ?_) (fun hn => absurd (by first | omega | assumption | decide) hn)
    refine Ops.gu rfl rfl rfl (Dtu.mv (lk rfl)) rfl ?_
    refine Ops.gu rfl rfl rfl (Dtu.lss (lk rfl) (lk rfl)) rfl ?_
    refine Ops.u (Dtu.pickT (lk rfl) (lk rfl)) rfl ?_
    refine Ops.nil ?_
    refine Then.next ?_
    refine Body.condP (lk rfl) (fun _ => ?_) (fun hn => absurd (by first | omega | assumption | decide) hn)
    refine Body.skip ?_
    refine Then.next ?_
    refine Body.seq ?_
    refine Body.block ?_
    refine Body.seq ?_
    refine Body.region ?_
    refine Ops.u (Dtu.mv (lk rfl)) rfl ?_
    refine Ops.u (Dtu.mv (lk rfl)) rfl ?_
    refine Ops.u (Dtu.ix (i := (i)) Try.underlying93 Try.sizeOf98 (Sl.up h) (lk rfl) (lk rfl) (by omega) (by omega)) rfl ?_
    refine Ops.d (Det.lda Try.isAgg98 Try.sizeOf98 (lk rfl) (Rds.sl (Sl.up h) (gf (sz := 13) (fun _ => rfl) (by omega))) rfl) rfl ?_
    refine Ops.s (Stp.alloc ty98 (fun b6 => ?_)) rfl
    refine Ops.e (Stp.store 0 Try.sizeOf98 (lk rfl) (lk rfl) rfl rfl rfl rfl rfl rfl rfl ?_)
    refine Ops.nil ?_
    refine Then.next ?_
    refine Body.seq ?_
    generalize ops[i]! = o at *
    obtain ⟨sn, ⟨⟨or_, oc, ol, oo, oq, ov⟩, ot, op, on_, ob⟩, sa, sm, sc, tk, ba, bm, bc, bs⟩ := o
    obtain ⟨hs, hb, hbt, hf, hc, ht0, ht1⟩ := hoi
    unfold View.has at hs
    dsimp only at hs hb hbt hc ht0 ht1 ⊢
    have hN : (300 : Int) * i ≤ 12000 := by omega
    by_cases hb2 : 200 < bs.length
    · refine Body.seq ?_
      refine Body.region ?_
      refine Ops.u (Dtu.fld fa98_3 (lk rfl)) rfl ?_
      refine Ops.d (Det.ld Try.isAgg32 (lk rfl) (Rd.ow 0 rfl rfl)) rfl ?_
      refine Ops.u (Dtu.lenS Try.underlying32 (Sl.up hb) (lk rfl)) rfl ?_
      refine Ops.u (Dtu.gtr (lk rfl) (lk rfl)) rfl ?_
      refine Ops.u (Dtu.mv (lk rfl)) rfl ?_
      refine Ops.decP 31 rfl (fun _ => ?_) (fun hn => absurd (by first | omega | assumption | decide) hn)
      refine Ops.gn rfl rfl rfl rfl rfl ?_
      refine Ops.gn rfl rfl rfl rfl rfl ?_
      refine Ops.gn rfl rfl rfl rfl rfl ?_
      refine Ops.u (Dtu.pickT (lk rfl) (lk rfl)) rfl ?_
      refine Ops.nil ?_
      refine Then.next ?_
      refine Body.condT (lk rfl) ?_
      refine Body.seq ?_
      refine Body.region ?_
      refine Ops.s (Stp.call rfl Try.call51 (lks rfl) (fun E' le hat => alive35_ok E') ?_) rfl
      rintro _ _ ⟨rfl, rfl⟩
      refine Ops.u (Dtu.asg (lk rfl)) rfl ?_
      refine Ops.nil ?_
      refine Then.next ?_
      refine Body.ret ?_
      refine Then.ret ?_
      refine Blk.ret ?_
      refine Then.ret ?_
      refine Round.ret ?_
      refine Blk.ret ?_
      refine Then.ret ?_
      exact ⟨.inr rfl, _, pk [] rfl, rfl, rfl⟩
    by_cases hgr : Stt.great ⟨⟨or_, oc, ol, oo, oq, ov⟩, ot, op, on_, ob⟩
    · refine Body.seq ?_
      refine Body.region ?_
      refine Ops.u (Dtu.fld fa98_3 (lk rfl)) rfl ?_
      refine Ops.d (Det.ld Try.isAgg32 (lk rfl) (Rd.ow 0 rfl rfl)) rfl ?_
      refine Ops.u (Dtu.lenS Try.underlying32 (Sl.up hb) (lk rfl)) rfl ?_
      refine Ops.u (Dtu.gtr (lk rfl) (lk rfl)) rfl ?_
      refine Ops.u (Dtu.mv (lk rfl)) rfl ?_
      refine Ops.decP 31 rfl (fun hy => absurd hy (by first | omega | assumption | decide)) (fun _ => ?_)
      refine Ops.gu rfl rfl rfl (Dtu.fld fa98_1 (lk rfl)) rfl ?_
      refine Ops.gd rfl rfl rfl (Det.lda Try.isAgg77 Try.sizeOf77 (lk rfl) (Rds.ow (m := 10) 0 rfl rfl) rfl) rfl ?_
      refine Ops.gs rfl rfl rfl (Stp.call rfl Try.call38 (lks rfl) (fun E' le hat => great_ok E' ⟨⟨_, _, _, _, _, _⟩, _, _, _, _⟩ _ (Sl.mono (by assumption) le)) ?_) rfl
      rintro _ _ ⟨rfl, rfl⟩
      refine Ops.u (Dtu.pickF (lk rfl) (lk rfl)) rfl ?_
      refine Ops.nil ?_
      refine Then.next ?_
      refine Body.condP (lk rfl) (fun _ => ?_) (fun hn => absurd (by first | omega | assumption | decide) hn)
      refine Body.seq ?_
      refine Body.region ?_
      refine Ops.s (Stp.call rfl Try.call51 (lks rfl) (fun E' le hat => alive35_ok E') ?_) rfl
      rintro _ _ ⟨rfl, rfl⟩
      refine Ops.u (Dtu.asg (lk rfl)) rfl ?_
      refine Ops.nil ?_
      refine Then.next ?_
      refine Body.ret ?_
      refine Then.ret ?_
      refine Blk.ret ?_
      refine Then.ret ?_
      refine Round.ret ?_
      refine Blk.ret ?_
      refine Then.ret ?_
      exact ⟨.inr rfl, _, pk [] rfl, rfl, rfl⟩
    refine Body.seq ?_
    refine Body.region ?_
    refine Ops.u (Dtu.fld fa98_3 (lk rfl)) rfl ?_
    refine Ops.d (Det.ld Try.isAgg32 (lk rfl) (Rd.ow 0 rfl rfl)) rfl ?_
    refine Ops.u (Dtu.lenS Try.underlying32 (Sl.up hb) (lk rfl)) rfl ?_
    refine Ops.u (Dtu.gtr (lk rfl) (lk rfl)) rfl ?_
    refine Ops.u (Dtu.mv (lk rfl)) rfl ?_
    refine Ops.decP 31 rfl (fun hy => absurd hy (by first | omega | assumption | decide)) (fun _ => ?_)
    refine Ops.gu rfl rfl rfl (Dtu.fld fa98_1 (lk rfl)) rfl ?_
    refine Ops.gd rfl rfl rfl (Det.lda Try.isAgg77 Try.sizeOf77 (lk rfl) (Rds.ow (m := 10) 0 rfl rfl) rfl) rfl ?_
    refine Ops.gs rfl rfl rfl (Stp.call rfl Try.call38 (lks rfl) (fun E' le hat => great_ok E' ⟨⟨_, _, _, _, _, _⟩, _, _, _, _⟩ _ (Sl.mono (by assumption) le)) ?_) rfl
    rintro _ _ ⟨rfl, rfl⟩
    refine Ops.u (Dtu.pickF (lk rfl) (lk rfl)) rfl ?_
    refine Ops.nil ?_
    refine Then.next ?_
    refine Body.condP (lk rfl) (fun hy => absurd hy (by first | omega | assumption | decide)) (fun _ => ?_)
    refine Body.skip ?_
    refine Then.next ?_
    refine Body.seqJ (γ := ShG) rfl (fun g => []) (fun g => [own b4 (g.e.seen.cells (.slice g.s1 g.s2 g.s3)) 77, own nb (g.e.cells (.slice g.a g.m g.c) (.slice g.p g.q g.k)) 156, vsl 4 (.slice g.p g.q g.k) g.e.gs.length (g.e.gs.flatMap Gue.enc), osl 55 4 (.slice g.a g.m g.c) g.e.seen.v.cells.length (g.e.seen.v.cells.flatMap Cell.enc), osl 55 4 (.slice fa12 fm12 fc12) 1 (View.first.cells.flatMap Cell.enc)]) (fun g => g.e.Ok (300 * i + 300) ∧ g.e.Z ∧ ((g.e.seen = Stt.first ∧ g.s1 = fa12 ∧ g.s2 = fm12 ∧ g.s3 = fc12) ∨ g.e.seen.v.has E [] (.slice g.s1 g.s2 g.s3))) ?_ ?_
    · cases sn with
      | false =>
        refine Body.seq ?_
        refine Body.region ?_
        refine Ops.u (Dtu.fld fa98_0 (lk rfl)) rfl ?_
        refine Ops.d (Det.ld Try.isAgg4 (lk rfl) (Rd.ow 0 rfl rfl)) rfl ?_
        refine Ops.u (Dtu.not (lk rfl)) rfl ?_
        refine Ops.nil ?_
        refine Then.next ?_
        refine Body.condT (lk rfl) ?_
        refine Body.region ?_
        refine Ops.u (Dtu.mv (lk rfl)) rfl ?_
        refine Ops.u (Dtu.fld fa98_3 (lk rfl)) rfl ?_
        refine Ops.d (Det.ld Try.isAgg32 (lk rfl) (Rd.ow 0 rfl rfl)) rfl ?_
        refine Ops.s (Stp.callOwn [2, 2] rfl rfl Try.call52 (lks rfl) (fun E' le hat => etype_ok E' nb e (300 * i) go a m c p q k _ bs (Sl.mono hb le) hbt (by omega)) ?_) rfl
        rintro _ _ ⟨rfl, z1, z2, z3, rfl⟩
        refine Ops.nil ?_
        refine Joint.goK [3, 0, 0, 1, 1] ⟨i, e.type bs, a, m, c, z1, z2, z3, s1, s2, s3⟩ rfl rfl rfl trivial rfl (by dsimp only; rw [type_seen]) ⟨(Ech.Ok.type bs go).mono (by omega), Ech.Z.type bs gz, by dsimp only; rw [type_seen]; exact gs⟩
      | true =>
        cases hk : Stt.ok ⟨⟨or_, oc, ol, oo, oq, ov⟩, ot, op, on_, ob⟩ with
        | false =>
          have hno := fun (E' : Env) (le : Env.Le E E') => esee_no E' nb e a m c p q k ⟨⟨or_, oc, ol, oo, oq, ov⟩, ot, op, on_, ob⟩ (.slice sa sm sc) tk (Sl.mono hs le) hk
          refine Body.seq ?_
          refine Body.region ?_
          refine Ops.u (Dtu.fld fa98_0 (lk rfl)) rfl ?_
          refine Ops.d (Det.ld Try.isAgg4 (lk rfl) (Rd.ow 0 rfl rfl)) rfl ?_
          refine Ops.u (Dtu.not (lk rfl)) rfl ?_
          refine Ops.nil ?_
          refine Then.next ?_
          refine Body.condF (lk rfl) ?_
          refine Body.seq ?_
          refine Body.region ?_
          refine Ops.u (Dtu.mv (lk rfl)) rfl ?_
          refine Ops.u (Dtu.fld fa98_1 (lk rfl)) rfl ?_
          refine Ops.d (Det.lda Try.isAgg77 Try.sizeOf77 (lk rfl) (Rds.ow (m := 10) 0 rfl rfl) rfl) rfl ?_
          refine Ops.u (Dtu.fld fa98_2 (lk rfl)) rfl ?_
          refine Ops.d (Det.ld Try.isAgg75 (lk rfl) (Rd.ow 0 rfl rfl)) rfl ?_
          refine Ops.s (Stp.callOwn [2, 2, 2] rfl rfl Try.call53 (lks rfl) (fun E' le hat => hno E' le) ?_) rfl
          rintro _ _ ⟨rfl, rfl⟩
          refine Ops.u (Dtu.eql (lk rfl) (lk rfl)) rfl ?_
          refine Ops.nil ?_
          refine Then.next ?_
          refine Body.condP (lk rfl) (fun hy => absurd hy (by first | omega | assumption | decide)) (fun _ => ?_)
          refine Body.skip ?_
          refine Joint.goK [4, 0, 0, 0, 1] ⟨i, e, a, m, c, p, q, k, s1, s2, s3⟩ rfl rfl rfl trivial rfl rfl ⟨go.mono (by omega), gz, gs⟩
        | true =>
          have hyes := fun (E' : Env) (le : Env.Le E E') => esee_ok E' nb e (300 * i) go (by omega) a m c p q k ⟨⟨or_, oc, ol, oo, oq, ov⟩, ot, op, on_, ob⟩ (.slice sa sm sc) tk (Sl.mono hs le) hk hf.fl
          refine Body.seq ?_
          refine Body.region ?_
          refine Ops.u (Dtu.fld fa98_0 (lk rfl)) rfl ?_
          refine Ops.d (Det.ld Try.isAgg4 (lk rfl) (Rd.ow 0 rfl rfl)) rfl ?_
          refine Ops.u (Dtu.not (lk rfl)) rfl ?_
          refine Ops.nil ?_
          refine Then.next ?_
          refine Body.condF (lk rfl) ?_
          refine Body.seq ?_
          refine Body.region ?_
          refine Ops.u (Dtu.mv (lk rfl)) rfl ?_
          refine Ops.u (Dtu.fld fa98_1 (lk rfl)) rfl ?_
          refine Ops.d (Det.lda Try.isAgg77 Try.sizeOf77 (lk rfl) (Rds.ow (m := 10) 0 rfl rfl) rfl) rfl ?_
          refine Ops.u (Dtu.fld fa98_2 (lk rfl)) rfl ?_
          refine Ops.d (Det.ld Try.isAgg75 (lk rfl) (Rd.ow 0 rfl rfl)) rfl ?_
          refine Ops.s (Stp.callOwn [2, 2, 2] rfl rfl Try.call53 (lks rfl) (fun E' le hat => hyes E' le) ?_) rfl
          rintro _ _ ⟨rfl, y1, y2, y3, z1, z2, z3, rfl⟩
          refine Ops.u (Dtu.eql (lk rfl) (lk rfl)) rfl ?_
          refine Ops.nil ?_
          refine Then.next ?_
          refine Body.condP (lk rfl) (fun _ => ?_) (fun hn => absurd (by first | omega | assumption | decide) hn)
          refine Body.region ?_
          refine Ops.u (Dtu.fld fa98_1 (lk rfl)) rfl ?_
          refine Ops.d (Det.lda Try.isAgg77 Try.sizeOf77 (lk rfl) (Rds.ow (m := 10) 3 rfl rfl) rfl) rfl ?_
          refine Ops.e (Stp.store 4 Try.sizeOf77 (lk rfl) (lk rfl) rfl rfl rfl rfl rfl rfl rfl ?_)
          refine Ops.nil ?_
          refine Joint.goK [4, 0, 0, 0, 1] ⟨i, e.see ⟨⟨or_, oc, ol, oo, oq, ov⟩, ot, op, on_, ob⟩ tk, y1, y2, y3, z1, z2, z3, sa, sm, sc⟩ rfl rfl rfl trivial rfl (by dsimp only; rw [see_seen]; rfl) ⟨(go.see tk hk hf.fl hc).mono (by omega), Ech.Z.see _ _, .inr (by dsimp only; rw [see_seen]; exact hs)⟩
    · clear gs gz go
      rintro ⟨_, e, a, m, c, p, q, k, s1, s2, s3⟩ u2 ⟨go, gz, gs⟩
      dsimp only at go gz gs ⊢
      have hsh := show_all go
      have hlen5 := ok_480 (Stt.ok_fits go.seen).1
      have hr1 : e.show.rows = e.seen.v.rows := rfl
      have hr2 : e.show.cols = e.seen.v.cols := rfl
      have hn := go.n
      have hrows : ∀ (E' : Env) (a : Option Addr) (m k : Nat) (h : e.show.has E' [] (.slice a m k)), Does Try.prog 55 #[e.show.val (.slice a m k)] E' [] fun r H' => r = .bool true ∧ H' = [] := fun E' a m k h => by
        have := rows_ok E' e.show a m k h hsh.2.1 hsh.2.2.1 (by rw [hsh.2.2.2]; omega)
        rw [hsh.1] at this; exact this
      have hS : ∀ (E' : Env), Env.Le E E' → At (osl 55 4 (.slice fa12 fm12 fc12) 1 (View.first.cells.flatMap Cell.enc)) E' → e.seen.v.has E' [] (.slice s1 s2 s3) := fun E' le hA => by
        rcases gs with ⟨e1, rfl, rfl, rfl⟩ | hh
        · rw [e1]; exact Sl.at hA
        · exact Sl.mono hh le
      have hsame : ∀ (E' : Env) (hg0 : e.gs.length = 0) (a : Option Addr) (m k : Nat) (h : e.show.has E' [] (.slice a m k)) (h2 : e.seen.v.has E' [] (.slice s1 s2 s3)), Does Try.prog 26 #[e.show.val (.slice a m k), e.seen.v.val (.slice s1 s2 s3)] E' [] fun r H' => r = .bool true ∧ H' = [] := fun E' hg0 a m k h h2 => by
        have := same_ok E' e.show e.seen.v _ _ h h2
        rw [show decide (e.show = e.seen.v) = true from decide_eq_true (show_none go gz (List.eq_nil_of_length_eq_zero hg0))] at this
        exact this
      by_cases hg0 : e.gs.length = 0
      · refine Body.seq ?_
        refine Body.region ?_
        refine Ops.u (Dtu.mv (lk rfl)) rfl ?_
        refine Ops.s (Stp.callOwn [1, 1, 1] rfl rfl Try.call54 (lks rfl) (fun E' le hat => eshow_ok E' nb e (300 * i + 300) go a m c p q k) ?_) rfl
        rintro _ _ ⟨w1, w2, w3, rfl, rfl⟩
        refine Ops.u (Dtu.mv (lk rfl)) rfl ?_
        refine Ops.u (Dtu.ext (lk rfl) rfl) rfl ?_
        refine Ops.u (Dtu.ext (lk rfl) rfl) rfl ?_
        refine Ops.s (Stp.alloc ty24 (fun b7 => ?_)) rfl
        refine Ops.e (Stp.store 0 Try.sizeOf24 (lk rfl) (lk rfl) rfl rfl rfl rfl rfl rfl rfl ?_)
        refine Ops.u (Dtu.asg (lk rfl)) rfl ?_
        refine Ops.nil ?_
        refine Then.next ?_
        refine Body.seq ?_
        refine Body.seq ?_
        refine Body.region ?_
        refine Ops.u (Dtu.mv (lk rfl)) rfl ?_
        refine Ops.u (Dtu.neq (lk rfl) (lk rfl)) rfl ?_
        refine Ops.u (Dtu.mv (lk rfl)) rfl ?_
        refine Ops.decP 60 rfl (fun hy => absurd hy (by first | omega | assumption | decide)) (fun _ => ?_)
        refine Ops.gd rfl rfl rfl (Det.lda Try.isAgg24 Try.sizeOf24 (lk rfl) (Rds.ow (m := 6) 0 rfl rfl) rfl) rfl ?_
        refine Ops.gs rfl rfl rfl (Stp.call rfl Try.call55 (lks rfl) (fun E' le hat => hrows E' _ _ _ (Sl.at (t := 55) (hat _ (by simp)))) ?_) rfl
        rintro _ _ ⟨rfl, rfl⟩
        refine Ops.gu rfl rfl rfl (Dtu.not (lk rfl)) rfl ?_
        refine Ops.u (Dtu.pickF (lk rfl) (lk rfl)) rfl ?_
        refine Ops.u (Dtu.mv (lk rfl)) rfl ?_
        refine Ops.gu rfl rfl rfl (Dtu.fld fa24_0 (lk rfl)) rfl ?_
        refine Ops.gd rfl rfl rfl (Det.ld Try.isAgg3 (lk rfl) (Rd.ow 0 rfl rfl)) rfl ?_
        refine Ops.gu rfl rfl rfl (Dtu.fld fa77_0 (lk rfl)) rfl ?_
        refine Ops.gu rfl rfl rfl (Dtu.fld fa24_0 (lk rfl)) rfl ?_
        refine Ops.gd rfl rfl rfl (Det.ld Try.isAgg3 (lk rfl) (Rd.ow 5 rfl rfl)) rfl ?_
        refine Ops.gu rfl rfl rfl (Dtu.neq (lk rfl) (lk rfl)) rfl ?_
        refine Ops.u (Dtu.pickF (lk rfl) (lk rfl)) rfl ?_
        refine Ops.u (Dtu.mv (lk rfl)) rfl ?_
        refine Ops.decP 73 rfl (fun hy => absurd hy (by first | omega | assumption | decide)) (fun _ => ?_)
        refine Ops.gu rfl rfl rfl (Dtu.fld fa24_1 (lk rfl)) rfl ?_
        refine Ops.gd rfl rfl rfl (Det.ld Try.isAgg3 (lk rfl) (Rd.ow 0 rfl rfl)) rfl ?_
        refine Ops.gu rfl rfl rfl (Dtu.fld fa77_0 (lk rfl)) rfl ?_
        refine Ops.gu rfl rfl rfl (Dtu.fld fa24_1 (lk rfl)) rfl ?_
        refine Ops.gd rfl rfl rfl (Det.ld Try.isAgg3 (lk rfl) (Rd.ow 5 rfl rfl)) rfl ?_
        refine Ops.gu rfl rfl rfl (Dtu.neq (lk rfl) (lk rfl)) rfl ?_
        refine Ops.u (Dtu.pickF (lk rfl) (lk rfl)) rfl ?_
        refine Ops.u (Dtu.mv (lk rfl)) rfl ?_
        refine Ops.decP 81 rfl (fun hy => absurd hy (by first | omega | assumption | decide)) (fun _ => ?_)
        refine Ops.gu rfl rfl rfl (Dtu.mv (lk rfl)) rfl ?_
        refine Ops.gs rfl rfl rfl (Stp.callOwn [1, 1] rfl rfl Try.call56 (lks rfl) (fun E' le hat => eguesses_ok E' nb e _ _ _ _ hn) ?_) rfl
        rintro _ _ ⟨v183, v283, v383, rfl, rfl⟩
        refine Ops.gu rfl rfl rfl (Dtu.lenS Try.underlying102 (Sl.osl 2 rfl) (lk rfl)) rfl ?_
        refine Ops.gu rfl rfl rfl (Dtu.gtr (lk rfl) (lk rfl)) rfl ?_
        refine Ops.u (Dtu.pickF (lk rfl) (lk rfl)) rfl ?_
        refine Ops.nil ?_
        refine Then.next ?_
        refine Body.condP (lk rfl) (fun hy => absurd hy (by first | omega | assumption | decide)) (fun _ => ?_)
        refine Body.skip ?_
        refine Then.next ?_
        refine Body.seq ?_
        refine Body.region ?_
        refine Ops.u (Dtu.mv (lk rfl)) rfl ?_
        refine Ops.s (Stp.callOwn [0, 0] rfl rfl Try.call56 (lks rfl) (fun E' le hat => eguesses_ok E' nb e _ _ _ _ hn) ?_) rfl
        rintro _ _ ⟨v188, v288, v388, rfl, rfl⟩
        refine Ops.u (Dtu.lenS Try.underlying102 (Sl.osl 2 rfl) (lk rfl)) rfl ?_
        refine Ops.u (Dtu.eql (lk rfl) (lk rfl)) rfl ?_
        refine Ops.u (Dtu.mv (lk rfl)) rfl ?_
        refine Ops.decP 91 rfl (fun _ => ?_) (fun hn => absurd (by first | omega | assumption | decide) hn)
        refine Ops.gd rfl rfl rfl (Det.lda Try.isAgg24 Try.sizeOf24 (lk rfl) (Rds.ow (m := 6) 4 rfl rfl) rfl) rfl ?_
        refine Ops.gu rfl rfl rfl (Dtu.fld fa77_0 (lk rfl)) rfl ?_
        refine Ops.gd rfl rfl rfl (Det.lda Try.isAgg24 Try.sizeOf24 (lk rfl) (Rds.ow (m := 6) 7 rfl rfl) rfl) rfl ?_
        refine Ops.gs rfl rfl rfl (Stp.call rfl Try.call26 (lks rfl) (fun E' le hat => hsame E' hg0 _ _ _ (Sl.at (t := 55) (hat _ (by simp))) (hS E' le (hat _ (by simp)))) ?_) rfl
        rintro _ _ ⟨rfl, rfl⟩
        refine Ops.gu rfl rfl rfl (Dtu.not (lk rfl)) rfl ?_
        refine Ops.u (Dtu.pickT (lk rfl) (lk rfl)) rfl ?_
        refine Ops.nil ?_
        refine Then.next ?_
        refine Body.condF (lk rfl) ?_
        refine Body.skip ?_
        refine Blk.norm ?_
        refine Then.next ?_
        refine Body.region ?_
        refine Ops.u (Dtu.mv (lk rfl)) rfl ?_
        refine Ops.u (Dtu.add (lk rfl) (lk rfl) (w64 (by omega) (by omega))) rfl ?_
        refine Ops.u (Dtu.asg (lk rfl)) rfl ?_
        refine Ops.nil ?_
        refine Round.goK [7, 0, 0, 3, 4] ⟨i + 1, e, a, m, c, p, q, k, s1, s2, s3⟩ rfl rfl rfl ⟨int_eq (by simp), trivial⟩ rfl rfl ⟨by dsimp only; omega, by dsimp only; omega, go.mono (by dsimp only; omega), gz, gs⟩ (by dsimp only; omega)
      · refine Body.seq ?_
        refine Body.region ?_
        refine Ops.u (Dtu.mv (lk rfl)) rfl ?_
        refine Ops.s (Stp.callOwn [1, 1, 1] rfl rfl Try.call54 (lks rfl) (fun E' le hat => eshow_ok E' nb e (300 * i + 300) go a m c p q k) ?_) rfl
        rintro _ _ ⟨w1, w2, w3, rfl, rfl⟩
        refine Ops.u (Dtu.mv (lk rfl)) rfl ?_
        refine Ops.u (Dtu.ext (lk rfl) rfl) rfl ?_
        refine Ops.u (Dtu.ext (lk rfl) rfl) rfl ?_
        refine Ops.s (Stp.alloc ty24 (fun b7 => ?_)) rfl
        refine Ops.e (Stp.store 0 Try.sizeOf24 (lk rfl) (lk rfl) rfl rfl rfl rfl rfl rfl rfl ?_)
        refine Ops.u (Dtu.asg (lk rfl)) rfl ?_
        refine Ops.nil ?_
        refine Then.next ?_
        refine Body.seq ?_
        refine Body.seq ?_
        refine Body.region ?_
        refine Ops.u (Dtu.mv (lk rfl)) rfl ?_
        refine Ops.u (Dtu.neq (lk rfl) (lk rfl)) rfl ?_
        refine Ops.u (Dtu.mv (lk rfl)) rfl ?_
        refine Ops.decP 60 rfl (fun hy => absurd hy (by first | omega | assumption | decide)) (fun _ => ?_)
        refine Ops.gd rfl rfl rfl (Det.lda Try.isAgg24 Try.sizeOf24 (lk rfl) (Rds.ow (m := 6) 0 rfl rfl) rfl) rfl ?_
        refine Ops.gs rfl rfl rfl (Stp.call rfl Try.call55 (lks rfl) (fun E' le hat => hrows E' _ _ _ (Sl.at (t := 55) (hat _ (by simp)))) ?_) rfl
        rintro _ _ ⟨rfl, rfl⟩
        refine Ops.gu rfl rfl rfl (Dtu.not (lk rfl)) rfl ?_
        refine Ops.u (Dtu.pickF (lk rfl) (lk rfl)) rfl ?_
        refine Ops.u (Dtu.mv (lk rfl)) rfl ?_
        refine Ops.gu rfl rfl rfl (Dtu.fld fa24_0 (lk rfl)) rfl ?_
        refine Ops.gd rfl rfl rfl (Det.ld Try.isAgg3 (lk rfl) (Rd.ow 0 rfl rfl)) rfl ?_
        refine Ops.gu rfl rfl rfl (Dtu.fld fa77_0 (lk rfl)) rfl ?_
        refine Ops.gu rfl rfl rfl (Dtu.fld fa24_0 (lk rfl)) rfl ?_
        refine Ops.gd rfl rfl rfl (Det.ld Try.isAgg3 (lk rfl) (Rd.ow 5 rfl rfl)) rfl ?_
        refine Ops.gu rfl rfl rfl (Dtu.neq (lk rfl) (lk rfl)) rfl ?_
        refine Ops.u (Dtu.pickF (lk rfl) (lk rfl)) rfl ?_
        refine Ops.u (Dtu.mv (lk rfl)) rfl ?_
        refine Ops.decP 73 rfl (fun hy => absurd hy (by first | omega | assumption | decide)) (fun _ => ?_)
        refine Ops.gu rfl rfl rfl (Dtu.fld fa24_1 (lk rfl)) rfl ?_
        refine Ops.gd rfl rfl rfl (Det.ld Try.isAgg3 (lk rfl) (Rd.ow 0 rfl rfl)) rfl ?_
        refine Ops.gu rfl rfl rfl (Dtu.fld fa77_0 (lk rfl)) rfl ?_
        refine Ops.gu rfl rfl rfl (Dtu.fld fa24_1 (lk rfl)) rfl ?_
        refine Ops.gd rfl rfl rfl (Det.ld Try.isAgg3 (lk rfl) (Rd.ow 5 rfl rfl)) rfl ?_
        refine Ops.gu rfl rfl rfl (Dtu.neq (lk rfl) (lk rfl)) rfl ?_
        refine Ops.u (Dtu.pickF (lk rfl) (lk rfl)) rfl ?_
        refine Ops.u (Dtu.mv (lk rfl)) rfl ?_
        refine Ops.decP 81 rfl (fun hy => absurd hy (by first | omega | assumption | decide)) (fun _ => ?_)
        refine Ops.gu rfl rfl rfl (Dtu.mv (lk rfl)) rfl ?_
        refine Ops.gs rfl rfl rfl (Stp.callOwn [1, 1] rfl rfl Try.call56 (lks rfl) (fun E' le hat => eguesses_ok E' nb e _ _ _ _ hn) ?_) rfl
        rintro _ _ ⟨v183, v283, v383, rfl, rfl⟩
        refine Ops.gu rfl rfl rfl (Dtu.lenS Try.underlying102 (Sl.osl 2 rfl) (lk rfl)) rfl ?_
        refine Ops.gu rfl rfl rfl (Dtu.gtr (lk rfl) (lk rfl)) rfl ?_
        refine Ops.u (Dtu.pickF (lk rfl) (lk rfl)) rfl ?_
        refine Ops.nil ?_
        refine Then.next ?_
        refine Body.condP (lk rfl) (fun hy => absurd hy (by first | omega | assumption | decide)) (fun _ => ?_)
        refine Body.skip ?_
        refine Then.next ?_
        refine Body.seq ?_
        refine Body.region ?_
        refine Ops.u (Dtu.mv (lk rfl)) rfl ?_
        refine Ops.s (Stp.callOwn [0, 0] rfl rfl Try.call56 (lks rfl) (fun E' le hat => eguesses_ok E' nb e _ _ _ _ hn) ?_) rfl
        rintro _ _ ⟨v188, v288, v388, rfl, rfl⟩
        refine Ops.u (Dtu.lenS Try.underlying102 (Sl.osl 2 rfl) (lk rfl)) rfl ?_
        refine Ops.u (Dtu.eql (lk rfl) (lk rfl)) rfl ?_
        refine Ops.u (Dtu.mv (lk rfl)) rfl ?_
        refine Ops.decP 91 rfl (fun hy => absurd hy (by first | omega | assumption | decide)) (fun _ => ?_)
        refine Ops.gn rfl rfl rfl rfl rfl ?_
        refine Ops.gn rfl rfl rfl rfl rfl ?_
        refine Ops.gn rfl rfl rfl rfl rfl ?_
        refine Ops.gn rfl rfl rfl rfl rfl ?_
        refine Ops.gn rfl rfl rfl rfl rfl ?_
        refine Ops.u (Dtu.pickF (lk rfl) (lk rfl)) rfl ?_
        refine Ops.nil ?_
        refine Then.next ?_
        refine Body.condF (lk rfl) ?_
        refine Body.skip ?_
        refine Blk.norm ?_
        refine Then.next ?_
        refine Body.region ?_
        refine Ops.u (Dtu.mv (lk rfl)) rfl ?_
        refine Ops.u (Dtu.add (lk rfl) (lk rfl) (w64 (by omega) (by omega))) rfl ?_
        refine Ops.u (Dtu.asg (lk rfl)) rfl ?_
        refine Ops.nil ?_
        refine Round.goK [7, 0, 0, 3, 4] ⟨i + 1, e, a, m, c, p, q, k, s1, s2, s3⟩ rfl rfl rfl ⟨int_eq (by simp), trivial⟩ rfl rfl ⟨by dsimp only; omega, by dsimp only; omega, go.mono (by dsimp only; omega), gz, gs⟩ (by dsimp only; omega)
  · refine Body.seq ?_
    refine Body.seq ?_
    refine Body.region ?_
    refine Ops.u (Dtu.mv (lk rfl)) rfl ?_
    refine Ops.u (Dtu.mv (lk rfl)) rfl ?_
    refine Ops.u (Dtu.lenS Try.underlying93 (Sl.up h) (lk rfl)) rfl ?_
    refine Ops.u (Dtu.lss (lk rfl) (lk rfl)) rfl ?_
    refine Ops.u (Dtu.mv (lk rfl)) rfl ?_
    refine Ops.decP 17 rfl (fun c17 => ?_) (fun c17 => ?_)
    · refine Ops.gu rfl rfl rfl (Dtu.mv (lk rfl)) rfl ?_
      refine Ops.gu rfl rfl rfl (Dtu.lss (lk rfl) (lk rfl)) rfl ?_
      refine Ops.u (Dtu.pickT (lk rfl) (lk rfl)) rfl ?_
      refine Ops.nil ?_
      refine Then.next ?_
      refine Body.condP (lk rfl) (fun hy => absurd hy (by first | omega | assumption | decide)) (fun _ => ?_)
      refine Body.exit ?_
      refine Then.exit ?_
      refine Round.exit ?_
      refine Blk.here ?_
      refine Then.next ?_
      refine Body.seq ?_
      refine Body.region ?_
      refine Ops.s (Stp.call rfl Try.call51 (lks rfl) (fun E' le hat => alive35_ok E') ?_) rfl
      rintro _ _ ⟨rfl, rfl⟩
      refine Ops.u (Dtu.asg (lk rfl)) rfl ?_
      refine Ops.nil ?_
      refine Then.next ?_
      refine Body.ret ?_
      (exact ⟨.inr rfl, _, pk [] rfl, rfl, rfl⟩)
    · refine Ops.gn rfl rfl rfl rfl rfl ?_
      refine Ops.gn rfl rfl rfl rfl rfl ?_
      refine Ops.u (Dtu.pickF (lk rfl) (lk rfl)) rfl ?_
      refine Ops.nil ?_
      refine Then.next ?_
      refine Body.condF (lk rfl) ?_
      refine Body.exit ?_
      refine Then.exit ?_
      refine Round.exit ?_
      refine Blk.here ?_
      refine Then.next ?_
      refine Body.seq ?_
      refine Body.region ?_
      refine Ops.s (Stp.call rfl Try.call51 (lks rfl) (fun E' le hat => alive35_ok E') ?_) rfl
      rintro _ _ ⟨rfl, rfl⟩
      refine Ops.u (Dtu.asg (lk rfl)) rfl ?_
      refine Ops.nil ?_
      refine Then.next ?_
      refine Body.ret ?_
      (exact ⟨.inr rfl, _, pk [] rfl, rfl, rfl⟩)
end Go.Proofs.Ytijjjdljdjnbaaa
end
section
/- What an echo is told, as arguments. -/
namespace Go.Proofs.Ytijjjdljdjnbaaa
set_option maxRecDepth 100000
set_option linter.unusedVariables false
set_option linter.unusedSimpArgs false
open Go.Sx Go.ChangeShapes Go.RowKit Go.WideShapes

section
variable {H : Type} {enc : TypeId × Value → H} {W : World} {base : Nat} {held : Bool} {fuel : Nat} {cs : List Value} {x : DataW H × List MemPlace}
theorem cells1_32 : Try.prog.cellsOf 32 = 1 := by kernel_rfl
theorem cells13_98 : Try.prog.cellsOf 98 = 13 := by kernel_rfl
theorem trod_state (h : DataW.trod enc Try.prog W base (fun _ => true) held fuel 77 cs = some x) :
    ∃ (v : Stt) (a : Option Addr) (m c : Nat), cs = v.cells (.slice a m c) ∧ v.v.has (envOf W) [] (.slice a m c) ∧ v.Fine ∧ ∀ c ∈ v.v.cells, c.In32 := by
  have hl := lenT Try.underlying77 h
  rw [cells10_77] at hl
  match cs, hl with
  | [v0, v1, v2, v3, v4, v5, v6, v7, v8, v9], _ =>
    obtain ⟨nv, yv, hv⟩ := fldT Try.underlying77 h 0 24 0 6 rfl rfl rfl cells6_24
    obtain ⟨n6, y6, h6⟩ := fldT Try.underlying77 h 1 9 6 1 rfl rfl rfl cells1_9
    obtain ⟨n7, y7, h7⟩ := fldT Try.underlying77 h 2 9 7 1 rfl rfl rfl cells1_9
    obtain ⟨n8, y8, h8⟩ := fldT Try.underlying77 h 3 75 8 1 rfl rfl rfl cells1_75
    obtain ⟨n9, y9, h9⟩ := fldT Try.underlying77 h 4 75 9 1 rfl rfl rfl cells1_75
    obtain ⟨n0, y0, h0⟩ := fldT Try.underlying24 hv 0 3 0 1 rfl rfl rfl cells1_3
    obtain ⟨n1, y1, h1⟩ := fldT Try.underlying24 hv 1 3 1 1 rfl rfl rfl cells1_3
    obtain ⟨n2, y2, h2⟩ := fldT Try.underlying24 hv 2 22 2 1 rfl rfl rfl cells1_22
    obtain ⟨n3, y3, h3⟩ := fldT Try.underlying24 hv 3 3 3 1 rfl rfl rfl cells1_3
    obtain ⟨n4, y4, h4⟩ := fldT Try.underlying24 hv 4 3 4 1 rfl rfl rfl cells1_3
    obtain ⟨n5, y5, h5⟩ := fldT Try.underlying24 hv 5 4 5 1 rfl rfl rfl cells1_4
    obtain ⟨a0, e0, _, w0⟩ := DataW.trod_int Try.underlying3 h0
    obtain ⟨a1, e1, _, w1⟩ := DataW.trod_int Try.underlying3 h1
    obtain ⟨s, cells, e2, hs, hc⟩ := trod_cells h2
    obtain ⟨a3, e3, _, w3⟩ := DataW.trod_int Try.underlying3 h3
    obtain ⟨a4, e4, _, w4⟩ := DataW.trod_int Try.underlying3 h4
    obtain ⟨b5, e5, _⟩ := DataW.trod_bool Try.underlying4 h5
    obtain ⟨s6, e6, _⟩ := DataW.trod_string Try.underlying9 h6
    obtain ⟨s7, e7, _⟩ := DataW.trod_string Try.underlying9 h7
    obtain ⟨a8, e8, _, w8⟩ := DataW.trod_int Try.underlying75 h8
    obtain ⟨a9, e9, _, w9⟩ := DataW.trod_int Try.underlying75 h9
    simp at e0 e1 e2 e3 e4 e5 e6 e7 e8 e9
    subst e0 e1 e2 e3 e4 e5 e6 e7 e8 e9
    have b8 := bounds_u64 w8
    have b9 := bounds_u64 w9
    obtain ⟨sa, sm, sc, rfl⟩ := hs.isSl W St.all
    exact ⟨⟨⟨a0, a1, cells, a3, a4, b5⟩, s6, s7, a8, a9⟩, sa, sm, sc, rfl, hs, ⟨fun c h => (hc c h).Fl, b8.1, b9.1⟩, hc⟩
theorem trod_op (h : DataW.trod enc Try.prog W base (fun _ => true) held fuel 98 cs = some x) : ∃ o : EOp, cs = o.enc ∧ o.Has (envOf W) := by
  have hl := lenT Try.underlying98 h
  rw [cells13_98] at hl
  match cs, hl with
  | [v0, v1, v2, v3, v4, v5, v6, v7, v8, v9, v10, v11, v12], _ =>
    obtain ⟨n0, y0, h0⟩ := fldT Try.underlying98 h 0 4 0 1 rfl rfl rfl cells1_4
    obtain ⟨n1, y1, h1⟩ := fldT Try.underlying98 h 1 77 1 10 rfl rfl rfl cells10_77
    obtain ⟨n2, y2, h2⟩ := fldT Try.underlying98 h 2 75 11 1 rfl rfl rfl cells1_75
    obtain ⟨n3, y3, h3⟩ := fldT Try.underlying98 h 3 32 12 1 rfl rfl rfl cells1_32
    obtain ⟨b0, e0, _⟩ := DataW.trod_bool Try.underlying4 h0
    obtain ⟨v, sa, sm, sc, e1, hv, fv, hc⟩ := trod_state h1
    obtain ⟨a2, e2, _, w2⟩ := DataW.trod_int Try.underlying75 h2
    obtain ⟨b, bs, e3, hb, hbt⟩ := trod_bytes h3
    have b2 := bounds_u64 w2
    obtain ⟨ba, bm, bc, rfl⟩ := hb.isSl W St.all
    simp [Stt.cells] at e0 e1 e2 e3
    obtain ⟨rfl, rfl, rfl, rfl, rfl, rfl, rfl, rfl, rfl, rfl⟩ := e1
    subst e0 e2 e3
    exact ⟨⟨b0, v, sa, sm, sc, a2, ba, bm, bc, bs⟩, rfl, ⟨hv, hb, hbt, fv, fun c h => (hc c h).Cols, by dsimp only; omega, by dsimp only; omega⟩⟩
theorem trod_ops (h : DataW.trod enc Try.prog W base (fun _ => true) held fuel 93 cs = some x) : ∃ (s : Value) (l : List EOp), cs = [s] ∧ Sl (envOf W) [] 13 s l.length (l.flatMap EOp.enc) ∧ ∀ o ∈ l, o.Has (envOf W) :=
  trod_list Try.underlying93 cells13_98 (by omega) (fun _ => rfl) (fun h => trod_op h) h
end
end Go.Proofs.Ytijjjdljdjnbaaa
end
