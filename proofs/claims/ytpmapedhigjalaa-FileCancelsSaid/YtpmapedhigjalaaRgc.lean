/- Qc: SxC, SxD, SxE, SxF, SxG. -/
import Derived.Lib.ConvBytes
import Derived.Deep.Slices
import Derived.Test.YtpmapedhigjalaaRga
import Derived.Test.YtpmapedhigjalaaRgb
section
/- My own logic of ownership over the model, part C: texts as bytes; functions that hold variables. -/
namespace Go.Sx
open Go
set_option linter.unusedVariables false
/-- an object more -/
theorem St.more {E : Env} {H : List HProp} {w w' : World} (s : St E H w) (o : Obj) (A : HProp) (hA : A (Hp.one w.heap.size o)) (hold : ∀ j, j < w.heap.size → w'.heap[j]? = w.heap[j]?) (hnew : w'.heap[w.heap.size]? = some o) (hos : w'.os = w.os) (htape : w'.tape = w.tape) (hout : w'.output = w.output) :
    St E (A :: H) w' ∧ Ext w w' := by
  have hn : hpOf w w.heap.size = none := by simp [hpOf]
  have hle : (hpOf w).Le (hpOf w') := by
    intro n o' h
    have hlt : n < w.heap.size := by
      have : w.heap[n]? = some o' := h
      exact (Array.getElem?_eq_some_iff.1 this).1
    show w'.heap[n]? = some o'
    rw [hold n hlt]; exact h
  obtain ⟨h, a, dE, l⟩ := s.has
  have dn : ∀ x : Hp, x.Le (hpOf w) → (Hp.one w.heap.size o).Disj x := fun x lx => Hp.one_disj (by
    cases hx : x w.heap.size with
    | none => rfl
    | some o => have := lx _ _ hx; rw [hn] at this; cases this)
  refine ⟨⟨⟨(Hp.one w.heap.size o).union h, ⟨_, h, hA, a, dn h l, rfl⟩, Hp.Disj.union_right (dn _ s.keep).symm dE, Hp.union_le (Hp.one_le hnew) (l.trans hle)⟩,
    s.keep.trans hle, hos.trans s.os, htape.trans s.tape, hout.trans s.output⟩, ⟨hle, hos, htape, hout⟩⟩
section
variable {P : Program} {n : Nat} {f : Fr} {E : Env} {H : List HProp} {d : Option Nat} {ty : TypeId} {pos : String} {aft : Array Edge} {g : Option (Nat × Bool)} {x y z : Operand} {K : Value → List HProp → Prop}
theorem EqD.str {D : Nat} {T : TypeId} {a b : ByteArray} (h : P.underlying T = some .string) : EqD P (D + 1) T (.string a) (.string b) (a.toList == b.toList) := fun w => run_equalIn_string w D T a b h
end
end Go.Sx
end
section
/- My own logic of ownership over the model, part D: open order where reads and stores may change places. -/
namespace Go.Sx
open Go
set_option linter.unusedVariables false
def AnyW (P : Program) (ops : Array Oper) (Q : Exit → Act → World → Prop) : Nat → Array Bool → Act → World → Prop
  | 0, listed, a, w => Region.ready .any ops listed = [] ∧ Q .normal a w
  | k + 1, listed, a, w => (Region.ready .any ops listed = [] → Q .normal a w) ∧
    ∀ i ∈ Region.ready .any ops listed, OpI P ops i a w fun a' w' => AnyW P ops Q k (listed.setIfInBounds i true) a' w'
theorem AnyW.wpAny {P : Program} {ops : Array Oper} {Q : Exit → Act → World → Prop} : ∀ (k : Nat) (listed : Array Bool) (a : Act) (w : World), AnyW P ops Q k listed a w → Go.wpAny P .any ops Q k listed a w
  | 0, _, _, _, h => h
  | k + 1, _, _, _, h => ⟨h.1, fun i hi => ((h.2 i hi).mono fun _ _ q => AnyW.wpAny k _ _ _ q).wpOp⟩
theorem AnyW.firstU {P : Program} {ops : Array Oper} {Q : Exit → Act → World → Prop} {i : Nat} {oi : Oper} {v : Value} (hi : ops[i]? = some oi) (hsel : ∀ (j : Nat) (o : Oper) cs b, ops[j]? = some o → o.op ≠ .select cs b) :
    ∀ (fuel : Nat) (listed : Array Bool) (a : Act) (w : World),
      (∀ j oj, ops[j]? = some oj → j ≠ i → listed.getD j true = false → (∀ e ∈ oj.after, Region.binds .any e = true → e.on ≠ i) → oi.apart ops oj = true) →
      i ∈ Region.ready .any ops listed → Yields P ops oi v a →
      AnyW P ops Q fuel (listed.setIfInBounds i true) (a.put oi.dst v) w → AnyW P ops Q (fuel + 1) listed a w := by
  intro fuel
  induction fuel with
  | zero =>
    intro listed a w _ hr hy H
    refine ⟨fun h => (by rw [h] at hr; cases hr), fun j hj => ?_⟩
    by_cases hji : j = i
    · subst hji; exact yieldsU_opI hi hy H
    · have := ready_mono hj hji
      rw [H.1] at this
      cases this
  | succ fuel ih =>
    intro listed a w hfree hr hy H
    refine ⟨fun h => (by rw [h] at hr; cases hr), fun j hj => ?_⟩
    by_cases hji : j = i
    · subst hji; exact yieldsU_opI hi hy H
    · have h1 := H.2 j (ready_mono hj hji)
      obtain ⟨hjun, oj, hoj, hall⟩ := mem_ready.1 hj
      have hnot : ∀ e ∈ oj.after, Region.binds .any e = true → e.on ≠ i := fun e he hb heq => by
        have h1 := hall e he hb
        rw [heq] at h1
        exact getD_tf (mem_ready.1 hr).1 h1
      have h2 := OpI.putU hoj (hfree j oj hoj hji hjun hnot) (fun cs b => hsel i oi cs b hi) (fun cs b => hsel j oj cs b hoj) hy h1
      have hfree' : ∀ k ok, ops[k]? = some ok → k ≠ i → (listed.setIfInBounds j true).getD k true = false →
          (∀ e ∈ ok.after, Region.binds .any e = true → e.on ≠ i) → oi.apart ops ok = true := fun k ok hk hki hun hno => by
        refine hfree k ok hk hki ?_ hno
        by_cases hjk : j = k
        · subst hjk; exact hjun
        · rw [getD_set_ne true hjk] at hun; exact hun
      refine h2.mono fun a' w' ⟨hy', h3⟩ => ih (listed.setIfInBounds j true) a' w' hfree' (ready_mono hr (Ne.symm hji)) hy' ?_
      rw [Array.setIfInBounds_comm _ _ hji]
      exact h3
/-- what is left of a region, in whatever order -/
def AW (P : Program) (n : Nat) (ops : Array Oper) (k : Nat) (listed : Array Bool) (f : Fr) (E : Env) (H : List HProp) (K : Kont) : Prop :=
  ∀ w a, Rel n f a.tmps → a.defers = [] → St E H w → AnyW P ops (Post n E K) k listed a w
section
variable {P : Program} {n : Nat} {f : Fr} {E : Env} {H : List HProp} {K : Kont} {ops : Array Oper} {k : Nat} {listed : Array Bool} {F : List Ent} {dd : Nat} {op : Op} {ty : TypeId} {pos : String} {aft : Array Edge} {v : Value}
theorem AW.done (hr : (Region.ready .any ops listed).isEmpty = true) (h : K .norm f H) : AW P n ops k listed f E H K := fun w a r d s => by
  have hr' : Region.ready .any ops listed = [] := by simpa using hr
  cases k with
  | zero => exact ⟨hr', d, f, H, r, h, s⟩
  | succ k => exact ⟨fun _ => ⟨d, f, H, r, h, s⟩, fun i hi => by rw [hr'] at hi; cases hi⟩
theorem AW.firstU (i : Nat) {o : Oper} {v : Value} (hi : ops[i]? = some o) (hB : firstB ops listed i = true) (hg : o.guard = none) (hd : okD n o.dst = true) (h : Dtu P n f E H o v)
    (hk : AW P n ops k (listed.setIfInBounds i true) (updO f o.dst v) E H K) : AW P n ops (k + 1) listed f E H K := fun w a r d s => by
  simp only [firstB, Bool.and_eq_true] at hB
  have hr : i ∈ Region.ready .any ops listed := by simpa using hB.1.2
  exact AnyW.firstU hi (Region.noSelect_spec hB.1.1) k listed a w (Region.free_spec hi hB.2) hr (.inl ⟨wanted_none hg _, fun w' => h w s w' a r⟩)
    (hk w _ (r.put hd v) ((put_defers _ _ _).trans d) s)
theorem AW.u (i : Nat) (hi : ops[i]? = some ⟨some dd, op, ty, pos, aft, none⟩) (hB : firstB ops listed i = true) (h : Dtu P n (fr F) E H ⟨some dd, op, ty, pos, aft, none⟩ v) (hd : Nat.blt dd n = true)
    (hk : AW P n ops k (listed.setIfInBounds i true) (fr (.set dd v :: F)) E H K) : AW P n ops (k + 1) listed (fr F) E H K := AW.firstU i hi hB rfl hd h hk
/-- i comes up next -/
def AWI (P : Program) (n : Nat) (ops : Array Oper) (k : Nat) (listed : Array Bool) (f : Fr) (E : Env) (H : List HProp) (K : Kont) (i : Nat) : Prop :=
  ∀ w a, Rel n f a.tmps → a.defers = [] → St E H w → OpI P ops i a w fun a' w' => AnyW P ops (Post n E K) k (listed.setIfInBounds i true) a' w'
/-- each of these may come up next -/
def AWs (P : Program) (n : Nat) (ops : Array Oper) (k : Nat) (listed : Array Bool) (f : Fr) (E : Env) (H : List HProp) (K : Kont) : List Nat → Prop
  | [] => True
  | i :: r => AWI P n ops k listed f E H K i ∧ AWs P n ops k listed f E H K r
theorem AWs.get : ∀ {is : List Nat} {i : Nat}, AWs P n ops k listed f E H K is → i ∈ is → AWI P n ops k listed f E H K i
  | _ :: _, _, h, .head _ => h.1
  | _ :: _, _, h, .tail _ m => AWs.get h.2 m
theorem AW.more (is : List Nat) (hB : (Region.ready .any ops listed == is) = true) (hne : is.isEmpty = false) (h : AWs P n ops k listed f E H K is) : AW P n ops (k + 1) listed f E H K := fun w a r d s => by
  have hr : Region.ready .any ops listed = is := by simpa using hB
  refine ⟨fun e => ?_, fun j hj => ?_⟩
  · rw [hr] at e; rw [e] at hne; simp at hne
  · exact AWs.get h (hr ▸ hj) w a r d s
theorem AWI.mk {q : Bool} {i : Nat} {o : Oper} (hi : ops[i]? = some o) (hg : o.guard = none) (hd : okD n o.dst = true)
    (h : Stp q P n f E H o fun v H' => AW P n ops k (listed.setIfInBounds i true) (updO f o.dst v) E H' K) : AWI P n ops k listed f E H K i := fun w a r d s => by
  unfold OpI
  simp only [hi]
  rw [if_pos (wanted_none hg _)]
  refine (h w a r s).mono ?_
  rintro v w' ⟨x, H', kk, s'⟩
  exact kk w' _ (r.put hd v) ((put_defers _ _ _).trans d) s'
theorem AWI.d {i : Nat} (hi : ops[i]? = some ⟨some dd, op, ty, pos, aft, none⟩) (h : Det P n (fr F) E H ⟨some dd, op, ty, pos, aft, none⟩ v) (hd : Nat.blt dd n = true)
    (hk : AW P n ops k (listed.setIfInBounds i true) (fr (.set dd v :: F)) E H K) : AWI P n ops k listed (fr F) E H K i := AWI.mk hi rfl hd (Det.stp h hk)
theorem AWI.e {q : Bool} {i : Nat} (hi : ops[i]? = some ⟨none, op, ty, pos, aft, none⟩)
    (h : Stp q P n (fr F) E H ⟨none, op, ty, pos, aft, none⟩ fun _ H' => AW P n ops k (listed.setIfInBounds i true) (fr F) E H' K) : AWI P n ops k listed (fr F) E H K i := AWI.mk hi rfl rfl h
end
end Go.Sx
end
section
/- My own logic of ownership over the model, part E: owned slices that are only read, or nil; slices of structs that come in. -/
namespace Go.Sx
open Go Go.ChangeShapes
set_option linter.unusedVariables false
theorem Sl.lit {E : Env} {H : List HProp} {sz m k c : Nat} {a : Option Addr} {vs : List Value} (h : Sl E H sz (.slice a m c) k vs) : ∀ w, St E H w → m = k ∧ k ≤ c ∧ c ≤ 9223372036854775807 := fun w s => by
  obtain ⟨h1, h2, _⟩ := (h w s).cap
  simp only [capOf] at h1 h2
  exact ⟨Sl.litLen h w s, h1, by unfold maxLen at h2; exact h2⟩
section
variable {P : Program} {n : Nat} {f : Fr} {E : Env} {H : List HProp}
theorem AB.conseq {ops : Array Oper} {k : Nat} {listed : Array Bool} {K : Kont} {H' : List HProp} (hs : ∀ w, St E H w → St E H' w) (h : AB P n ops k listed f E H' K) : AB P n ops k listed f E H K := fun hc w a r d s => h hc w a r d (hs w s)
theorem Does.conseq {g : FuncId} {args : Array Value} {Q : Value → List HProp → Prop} {H' : List HProp} (hs : ∀ w, St E H w → St E H' w) (h : Does P g args E H' Q) : Does P g args E H Q := fun w s => h w (hs w s)
end
section
variable {P : Program} {n : Nat} {f : Fr} {E : Env} {H : List HProp} {d : Option Nat} {ty : TypeId} {pos : String} {aft : Array Edge} {g : Option (Nat × Bool)} {x lo hi mx : Operand} {t e : TypeId} {sz m : Nat} {v : Value} {vs : List Value} {k1 k2 k3 : IntKind} {a b c : Int}
theorem Dtu.slHM (h c3 : Nat) (ht : P.underlying t = some (.slice e)) (hz : ∀ w, (sizeOf e).run P w = .ok sz w) (hs : Sl E H sz v m vs) (hx : ev f x = v) (hhi : ev f hi = .int k2 b) (hmx : ev f mx = .int k3 c) (hb : b = (h : Int)) (hc : c = (c3 : Int)) (h2 : h ≤ c3) (h3 : c3 ≤ m) :
    Dtu P n f E H ⟨d, .slice t x none (some hi) (some mx), ty, pos, aft, g⟩ (subSl v sz 0 h c3) := Dtu.slc3' ht hz hs hx (hb ▸ hhi) (hc ▸ hmx) h2 h3
theorem Dtu.slLHM (l h c3 : Nat) (ht : P.underlying t = some (.slice e)) (hz : ∀ w, (sizeOf e).run P w = .ok sz w) (hs : Sl E H sz v m vs) (hx : ev f x = v) (hlo : ev f lo = .int k1 a) (hhi : ev f hi = .int k2 b) (hmx : ev f mx = .int k3 c) (ha : a = (l : Int)) (hb : b = (h : Int)) (hc : c = (c3 : Int)) (h1 : l ≤ h) (h2 : h ≤ c3) (h3 : c3 ≤ m) :
    Dtu P n f E H ⟨d, .slice t x (some lo) (some hi) (some mx), ty, pos, aft, g⟩ (subSl v sz l h c3) := Dtu.slc3 ht hz hs hx (ha ▸ hlo) (hb ▸ hhi) (hc ▸ hmx) h1 h2 h3
end
section
variable {P : Program} {n : Nat} {f : Fr} {E : Env} {H : List HProp} {K : Kont} {ops : Array Oper} {k : Nat} {listed : Array Bool} {F : List Ent} {dd : Nat} {op : Op} {ty : TypeId} {pos : String} {aft : Array Edge} {v : Value}
theorem AWI.s {q : Bool} {i : Nat} (hi : ops[i]? = some ⟨some dd, op, ty, pos, aft, none⟩) (h : Stp q P n (fr F) E H ⟨some dd, op, ty, pos, aft, none⟩ fun v H' => AW P n ops k (listed.setIfInBounds i true) (fr (.set dd v :: F)) E H' K) (hd : Nat.blt dd n = true) : AWI P n ops k listed (fr F) E H K i := AWI.mk hi rfl hd h
theorem AW.pure {p : Prop} (hp : ∀ w, St E H w → p) (h : p → AW P n ops k listed f E H K) : AW P n ops k listed f E H K := fun w a r d s => h (hp w s) w a r d s
theorem AW.conseq {H' : List HProp} (hs : ∀ w, St E H w → St E H' w) (h : AW P n ops k listed f E H' K) : AW P n ops k listed f E H K := fun w a r d s => h w a r d (hs w s)
end
section
variable {P : Program} {n : Nat} {f : Fr} {E : Env} {H : List HProp}
end
/-- what was there, a row of cells of it -/
theorem Rds.at {E : Env} {H : List HProp} {b off m : Nat} {vs us : List Value} {t : TypeId} (h : At (own b vs t) E) (hv : forceL ((vs.drop off).take m) = some us) : Rds E H b off us := fun j u hj => by
  obtain rfl := forceL_eq hv
  refine Rd.env (own_at h ?_)
  rw [List.getElem?_take] at hj
  split at hj
  · rw [List.getElem?_drop] at hj; exact hj
  · cases hj
section
variable {P : Program} {n : Nat} {f : Fr} {E : Env} {H : List HProp} {d : Option Nat} {ty : TypeId} {pos : String} {aft : Array Edge} {g : Option (Nat × Bool)} {x y : Operand} {K : Value → List HProp → Prop}
end
/-! ### what comes in -/
section
variable {P : Program} {A : Type} {enc : TypeId × Value → A} {W : World} {base : Nat} {held : Bool} {fuel : Nat} {cs : List Value} {x : DataW A × List MemPlace}
theorem slNone' (E : Env) (sz : Nat) : Sl E [] sz (.slice none 0 0) 0 [] := Sl.nil
theorem keepCell {E : Env} {Hs : List HProp} {w' : World} (s : St (envOf W) Hs w') {a : Addr} {v : Value} (h : W.cell? a = some v) : w'.cell? a = some v := by
  unfold World.cell? at h ⊢
  cases hb : W.heap[a.block]? with
  | none => rw [hb] at h; cases h
  | some o =>
    have hk : w'.heap[a.block]? = some o := s.keep _ _ hb
    rw [hb] at h; rw [hk]; exact h
theorem spotNone {a : Addr} {v : Value} (h : W.cell? a = some v) : a.spot = none := by
  unfold World.cell? at h
  split at h
  · split at h
    · cases h
    · rename_i h1; simpa using h1
  · cases h
theorem flatLen {α : Type} {en : α → List Value} {sz : Nat} (hl : ∀ x, (en x).length = sz) (l : List α) : (l.flatMap en).length = l.length * sz := by
  induction l with
  | nil => simp
  | cons c t ih => rw [List.flatMap_cons, List.length_append, ih, hl, List.length_cons, Nat.add_mul, Nat.one_mul, Nat.add_comm]
/-- a slice whose elements are structs -/
theorem trod_list {α : Type} [Inhabited α] {en : α → List Value} {sz : Nat} {T e : TypeId} {Q : α → Prop} (hT : P.underlying T = some (.slice e)) (hsz : P.cellsOf e = sz) (hpos : 0 < sz) (hlen : ∀ x, (en x).length = sz)
    (hel : ∀ {fuel : Nat} {cs : List Value} {x : DataW A × List MemPlace}, DataW.trod enc P W base (fun _ => true) held fuel e cs = some x → ∃ c : α, cs = en c ∧ Q c)
    (h : DataW.trod enc P W base (fun _ => true) held fuel T cs = some x) : ∃ (s : Value) (l : List α), cs = [s] ∧ Sl (envOf W) [] sz s l.length (l.flatMap en) ∧ ∀ c ∈ l, Q c := by
  rcases Go.Deep.open_slice hT h with ⟨rfl, _⟩ | ⟨a, len, cap, m, n, D, Pl, rfl, hb, hl, hm, hmm, _, hx⟩
  · exact ⟨_, [], rfl, slNone' _ sz, by simp⟩
  · simp only [if_true] at hmm
    subst hmm
    have hc : ∀ i, i < m → ∃ c : α, (∀ j, j < sz → W.cell? (a.add (i * sz + j)) = (en c)[j]?) ∧ Q c := fun i hi => by
      obtain ⟨cs', h1, h2⟩ := hx i hi
      rw [hsz] at h1
      obtain ⟨_, _, h3⟩ := World.cells?_some h1
      obtain ⟨c, rfl, hin⟩ := hel h2
      refine ⟨c, fun j hj => ?_, hin⟩
      have := h3 j hj
      rwa [Go.Deep.add_add] at this
    have : ∃ f : Nat → α, ∀ i, i < m → (∀ j, j < sz → W.cell? (a.add (i * sz + j)) = (en (f i))[j]?) ∧ Q (f i) :=
      ⟨fun i => if h : i < m then Classical.choose (hc i h) else default, fun i hi => by dsimp only; rw [dif_pos hi]; exact Classical.choose_spec (hc i hi)⟩
    obtain ⟨f, hf⟩ := this
    refine ⟨_, (List.range len).map f, rfl, ?_, ?_⟩
    · have e1 : ((List.range len).map f).length = len := by simp
      rw [e1]
      intro w' s
      by_cases h0 : len = 0
      · subst h0
        exact ⟨by simp, by simp, .inl ⟨rfl, some a, m, rfl, hm⟩⟩
      · have hz0 : ∃ v, (en (f 0))[0]? = some v := by
          have := hlen (f 0)
          exact ⟨(en (f 0))[0]'(by omega), List.getElem?_eq_getElem (by omega)⟩
        obtain ⟨v00, hv00⟩ := hz0
        have h00 := (hf 0 (by omega)).1 0 hpos
        rw [hv00] at h00
        have hspot : a.spot = none := by
          have e : a.add (0 * sz + 0) = a := by simp [Addr.add]
          rw [e] at h00
          exact spotNone h00
        obtain ⟨b, off, spot⟩ := a
        dsimp only at hspot
        subst hspot
        refine ⟨by rw [flatLen hlen, e1], by omega, .inr ⟨m, rfl, hl, hm, fun j u hj => ?_⟩⟩
        have hjl : j < len * sz := by
          have := (List.getElem?_eq_some_iff.1 hj).1
          rw [flatLen hlen, e1] at this
          exact this
        have hq : j / sz < len := Nat.div_lt_of_lt_mul (by rw [Nat.mul_comm]; exact hjl)
        have hr : j % sz < sz := Nat.mod_lt _ hpos
        have hqr : j / sz * sz + j % sz = j := Nat.div_add_mod' j sz
        have hg := gf (enc := en) (sz := sz) hlen (xs := (List.range len).map f) (i := j / sz) (by simp; omega)
        have hi : ((List.range len).map f)[j / sz]! = f (j / sz) := by
          rw [getElem!_pos _ _ (by simp; omega)]; simp
        rw [hi] at hg
        have hu : (en (f (j / sz)))[j % sz]? = some u := by
          rw [← hg, List.getElem?_take_of_lt hr, List.getElem?_drop, hqr]; exact hj
        have h2 := (hf (j / sz) (by omega)).1 (j % sz) hr
        rw [hu, addr_add, hqr] at h2
        exact keepCell (E := envOf W) s h2
    · intro c hc'
      simp only [List.mem_map, List.mem_range] at hc'
      obtain ⟨i, hi, rfl⟩ := hc'
      exact (hf i (by omega)).2
end
end Go.Sx
end
section
/- My own logic of ownership over the model, part F: calls gone through in place; loops told by what changes. -/
namespace Go.Sx
open Go
set_option linter.unusedVariables false
/-- where a call that is gone through in place goes on -/
def RetK (P : Program) (E : Env) (rs : List ResultVar) (K : Value → List HProp → Prop) : Kont
  | .norm, f, H => ResK P f E H rs fun vs => K (mkRes vs) H
  | .ret, f, H => ResK P f E H rs fun vs => K (mkRes vs) H
  | .exit _, _, _ => False
theorem ResK.mono {P : Program} {f : Fr} {E : Env} {H : List HProp} : ∀ {rs : List ResultVar} {K K' : List Value → Prop}, ResK P f E H rs K → (∀ vs, K vs → K' vs) → ResK P f E H rs K'
  | [], _, _, h, k => k _ h
  | .tmp t :: rs, _, _, h, k => ResK.mono (rs := rs) h fun vs => k _
  | .cell a T :: rs, _, _, ⟨v, hl, h⟩, k => ⟨v, hl, ResK.mono (rs := rs) h fun vs => k _⟩
/-- one result -/
def RV (P : Program) (F : List Ent) (E : Env) (H : List HProp) : ResultVar → Value → Prop
  | .tmp t, v => look F t = some v
  | .cell a T, v => ∃ u, look F a = some u ∧ Loads P T u v E H
theorem RV.resK {P : Program} {F : List Ent} {E : Env} {H : List HProp} {x : ResultVar} {v : Value} {rs : List ResultVar} {K : List Value → Prop} (h1 : RV P F E H x v) (h : ResK P (fr F) E H rs fun vs => K (v :: vs)) : ResK P (fr F) E H (x :: rs) K := by
  cases x with
  | tmp t =>
    have e : fr F t = v := by have := look_fr F t; rw [show look F t = some v from h1] at this; exact (Option.some.inj this).symm
    show ResK P (fr F) E H rs fun vs => K (fr F t :: vs)
    rw [e]; exact h
  | cell a T =>
    obtain ⟨u, hu, hl⟩ := h1
    have e : fr F a = u := by have := look_fr F a; rw [hu] at this; exact (Option.some.inj this).symm
    refine ⟨v, ?_, h⟩
    rw [e]; exact hl
section
variable {P : Program} {n : Nat} {f : Fr} {F : List Ent} {E : Env} {H : List HProp} {d : Option Nat} {ty : TypeId} {pos : String} {aft : Array Edge} {gd : Option (Nat × Bool)} {K : Value → List HProp → Prop}
theorem RetK.n0 (h : K (.tuple #[]) H) : RetK P E [] K .norm f H := h
theorem RetK.r0 (h : K (.tuple #[]) H) : RetK P E [] K .ret f H := h
theorem RetK.r1 {x : ResultVar} {v : Value} (h1 : RV P F E H x v) (h : K v H) : RetK P E [x] K .ret (fr F) H := RV.resK h1 h
end
section
variable {P : Program} {n : Nat} {f : Fr} {E : Env} {H : List HProp} {K : Kont} {ops : Array Oper} {k : Nat} {listed : Array Bool} {F : List Ent} {dd : Nat} {op : Op} {ty : TypeId} {pos : String} {aft : Array Edge} {v : Value}
theorem AW.firstYesU (i : Nat) {o : Oper} {v : Value} {j t : Nat} {b : Bool} (hi : ops[i]? = some o) (hB : firstB ops listed i = true) (hg : o.guard = some (j, b)) (hj : guardSlot ops j = some t) (ht : Nat.blt t n = true)
    (hb : f t = .bool b) (hd : okD n o.dst = true) (h : Dtu P n f E H o v) (hk : AW P n ops k (listed.setIfInBounds i true) (updO f o.dst v) E H K) : AW P n ops (k + 1) listed f E H K := fun w a r d s => by
  simp only [firstB, Bool.and_eq_true] at hB
  have hr : i ∈ Region.ready .any ops listed := by simpa using hB.1.2
  exact AnyW.firstU hi (Region.noSelect_spec hB.1.1) k listed a w (Region.free_spec hi hB.2) hr (.inl ⟨by simp only [Region.wanted, hg, yielded_rel r hj ht hb]; simp, fun w' => h w s w' a r⟩)
    (hk w _ (r.put hd v) ((put_defers _ _ _).trans d) s)
theorem AW.firstNo (i : Nat) {o : Oper} {j t : Nat} {b : Bool} (hi : ops[i]? = some o) (hB : firstB ops listed i = true) (hg : o.guard = some (j, b)) (hj : guardSlot ops j = some t) (ht : Nat.blt t n = true)
    (hne : isB (f t) b = false) (hd : okD n o.dst = true) (hk : AW P n ops k (listed.setIfInBounds i true) (updO f o.dst undef) E H K) : AW P n ops (k + 1) listed f E H K := fun w a r d s => by
  simp only [firstB, Bool.and_eq_true] at hB
  have hr : i ∈ Region.ready .any ops listed := by simpa using hB.1.2
  exact AnyW.firstU hi (Region.noSelect_spec hB.1.1) k listed a w (Region.free_spec hi hB.2) hr (.inr ⟨wanted_rel r hg hj ht hne, rfl⟩)
    (hk w _ (r.put hd undef) ((put_defers _ _ _).trans d) s)
theorem AW.gu (i : Nat) {j t : Nat} {b : Bool} (hi : ops[i]? = some ⟨some dd, op, ty, pos, aft, some (j, b)⟩) (hB : firstB ops listed i = true) (hj : guardSlot ops j = some t) (ht : Nat.blt t n = true) (hb : look F t = some (.bool b))
    (h : Dtu P n (fr F) E H ⟨some dd, op, ty, pos, aft, some (j, b)⟩ v) (hd : Nat.blt dd n = true) (hk : AW P n ops k (listed.setIfInBounds i true) (fr (.set dd v :: F)) E H K) : AW P n ops (k + 1) listed (fr F) E H K :=
  AW.firstYesU i hi hB rfl hj ht (Option.some.inj ((look_fr F t).symm.trans hb)) hd h hk
theorem AW.gn (i : Nat) {j t : Nat} {b : Bool} {v : Value} (hi : ops[i]? = some ⟨some dd, op, ty, pos, aft, some (j, b)⟩) (hB : firstB ops listed i = true) (hj : guardSlot ops j = some t) (ht : Nat.blt t n = true) (hb : look F t = some v) (hne : isB v b = false)
    (hd : Nat.blt dd n = true) (hk : AW P n ops k (listed.setIfInBounds i true) (fr (.set dd undef :: F)) E H K) : AW P n ops (k + 1) listed (fr F) E H K :=
  AW.firstNo i hi hB rfl hj ht (by rw [Option.some.inj ((look_fr F t).symm.trans hb)]; exact hne) hd hk
theorem AW.decP (t : Nat) {p : Prop} {_ : Decidable p} (hb : look F t = some (.bool (decide p))) (h1 : p → AW P n ops k listed (fr (.set t (.bool true) :: F)) E H K) (h2 : ¬ p → AW P n ops k listed (fr (.set t (.bool false) :: F)) E H K) : AW P n ops k listed (fr F) E H K := by
  by_cases hp : p
  · rw [fr_decide hb (decide_eq_true hp)]; exact h1 hp
  · rw [fr_decide hb (decide_eq_false hp)]; exact h2 hp
theorem AW.dec (t : Nat) {b : Bool} (hb : look F t = some (.bool b)) (h1 : b = true → AW P n ops k listed (fr (.set t (.bool true) :: F)) E H K) (h2 : b = false → AW P n ops k listed (fr (.set t (.bool false) :: F)) E H K) : AW P n ops k listed (fr F) E H K := by
  cases hc : b with
  | true => rw [fr_decide hb hc]; exact h1 hc
  | false => rw [fr_decide hb hc]; exact h2 hc
theorem AWI.mkG {q : Bool} {i : Nat} {o : Oper} {j t : Nat} {b : Bool} (hi : ops[i]? = some o) (hg : o.guard = some (j, b)) (hj : guardSlot ops j = some t) (ht : Nat.blt t n = true) (hb : f t = .bool b) (hd : okD n o.dst = true)
    (h : Stp q P n f E H o fun v H' => AW P n ops k (listed.setIfInBounds i true) (updO f o.dst v) E H' K) : AWI P n ops k listed f E H K i := fun w a r d s => by
  unfold OpI
  simp only [hi]
  rw [if_pos (by simp only [Region.wanted, hg, yielded_rel r hj ht hb]; simp)]
  refine (h w a r s).mono ?_
  rintro v w' ⟨x, H', kk, s'⟩
  exact kk w' _ (r.put hd v) ((put_defers _ _ _).trans d) s'
theorem AWI.gd {i : Nat} {j t : Nat} {b : Bool} (hi : ops[i]? = some ⟨some dd, op, ty, pos, aft, some (j, b)⟩) (hj : guardSlot ops j = some t) (ht : Nat.blt t n = true) (hb : look F t = some (.bool b)) (h : Det P n (fr F) E H ⟨some dd, op, ty, pos, aft, some (j, b)⟩ v) (hd : Nat.blt dd n = true)
    (hk : AW P n ops k (listed.setIfInBounds i true) (fr (.set dd v :: F)) E H K) : AWI P n ops k listed (fr F) E H K i := AWI.mkG hi rfl hj ht (Option.some.inj ((look_fr F t).symm.trans hb)) hd (Det.stp h hk)
theorem AWI.gs {q : Bool} {i : Nat} {j t : Nat} {b : Bool} (hi : ops[i]? = some ⟨some dd, op, ty, pos, aft, some (j, b)⟩) (hj : guardSlot ops j = some t) (ht : Nat.blt t n = true) (hb : look F t = some (.bool b))
    (h : Stp q P n (fr F) E H ⟨some dd, op, ty, pos, aft, some (j, b)⟩ fun v H' => AW P n ops k (listed.setIfInBounds i true) (fr (.set dd v :: F)) E H' K) (hd : Nat.blt dd n = true) : AWI P n ops k listed (fr F) E H K i :=
  AWI.mkG hi rfl hj ht (Option.some.inj ((look_fr F t).symm.trans hb)) hd h
end
/-- some of what is owned is another -/
def upds (H : List HProp) : List (Nat × HProp) → List HProp
  | [] => H
  | (i, A) :: r => upds (H.set i A) r
section
variable {P : Program} {n : Nat} {F : List Ent} {E : Env} {H : List HProp} {K : Kont}
/-- a loop, told by what changes -/
theorem Body.loopH {c : Code} {γ : Type} {W : List Nat} (_hW : codeW c [] = some W) (L : γ → List (Nat × Value)) (ch : γ → List (Nat × HProp)) (Φ : γ → Prop) (μ : γ → Nat) (g0 : γ) (h0 : Φ g0) (hL : LookAll F (L g0)) (hH : H = upds H (ch g0))
    (round : ∀ g u, Φ g → Body P n c (fr (sets (L g) ++ .many W u :: F)) E (upds H (ch g)) (Round (HeadF W L (fun g => upds H (ch g)) Φ F E) μ g K)) : Body P n (.loop c) (fr F) E H K :=
  Body.loopF _hW L (fun g => upds H (ch g)) Φ μ g0 h0 hL hH round
/-- two ways come together, told by what changes -/
theorem Body.seqJH {c d : Code} {γ : Type} {W : List Nat} (_hW : codeW c [] = some W) (L : γ → List (Nat × Value)) (ch : γ → List (Nat × HProp)) (Φ : γ → Prop)
    (h1 : Body P n c (fr F) E H (Joint (fun f H' => ∃ g, HeadF W L (fun g => upds H (ch g)) Φ F E g f H') K)) (h2 : ∀ g u, Φ g → Body P n d (fr (sets (L g) ++ .many W u :: F)) E (upds H (ch g)) K) : Body P n (.seq c d) (fr F) E H K :=
  Body.seqJ _hW L (fun g => upds H (ch g)) Φ h1 h2
end
theorem Sl.shape {E : Env} {H : List HProp} {sz m : Nat} {v : Value} {vs : List Value} (h : Sl E H sz v m vs) : ∀ w, St E H w → ∃ a c, v = .slice a m c := fun w s => let ⟨_, _, a, e⟩ := (h w s).cap; ⟨a, _, e⟩
theorem Sl.hatI {E' : Env} {H : List HProp} (hat : ∀ A ∈ H, At A E') (i : Nat) {t : TypeId} {sz m : Nat} {v : Value} {vs : List Value} (h : H[i]? = some (Sx.osl t sz v m vs)) : Sl E' [] sz v m vs :=
  Sl.at (hat _ (List.mem_of_getElem? h))
theorem beqOf {a b x y : Bool} (ha : a = x) (hb : b = y) (h : (x == y) = true) : a = b := by subst ha hb; simpa using h
theorem nbneOf {a b x y : Bool} (ha : a = x) (hb : b = y) (h : (x == y) = true) : ¬ a ≠ b := fun k => k (beqOf ha hb h)
end Go.Sx
end
section
/- My own logic of ownership over the model, part G: open order, where some of what is owned stays as it is while the region runs. -/
namespace Go.Sx
open Go
set_option linter.unusedVariables false
/-- in each world of S, o yields v and nothing else -/
def YieldsS (P : Program) (ops : Array Oper) (S : World → Prop) (o : Oper) (v : Value) (a : Act) : Prop :=
  (Region.wanted o (yielded ops a.tmps) = true ∧ ∀ w', S w' → (execOp a.eval o).run P w' = .ok (.value v) w') ∨ (Region.wanted o (yielded ops a.tmps) = false ∧ v = undef)
theorem YieldsS.of_same {P : Program} {ops : Array Oper} {S : World → Prop} {o : Oper} {v : Value} {a a' : Act} (hy : YieldsS P ops S o v a) (he : execOp a'.eval o = execOp a.eval o)
    (hw : Region.wanted o (yielded ops a'.tmps) = Region.wanted o (yielded ops a.tmps)) : YieldsS P ops S o v a' := by
  unfold YieldsS at *
  rw [he, hw]; exact hy
theorem YieldsS.opI {P : Program} {ops : Array Oper} {S : World → Prop} {i : Nat} {o : Oper} {v : Value} {a : Act} {w : World} {K : Act → World → Prop} (hi : ops[i]? = some o) (hy : YieldsS P ops S o v a) (hs : S w) (h : K (a.put o.dst v) w) : OpI P ops i a w K := by
  unfold OpI
  simp only [hi]
  rcases hy with ⟨hw, hv⟩ | ⟨hw, rfl⟩
  · rw [if_pos hw]; unfold OpR; rw [hv w hs]; exact h
  · rw [if_neg (by rw [hw]; simp)]; exact h
theorem OpI.putG {P : Program} {ops : Array Oper} {j : Nat} {oi oj : Oper} {v : Value} (hj : ops[j]? = some oj) (hap : oi.apart ops oj = true)
    (hsj : ∀ cs b, oj.op ≠ .select cs b) {K : Act → World → Prop} {a : Act} {w : World} (Y : Act → Prop) (keep : ∀ u, Y (a.put oj.dst u))
    (h : OpI P ops j (a.put oi.dst v) w K) : OpI P ops j a w fun a' w' => Y a' ∧ K (a'.put oi.dst v) w' := by
  obtain ⟨h1, h2, h3⟩ := Oper.apart_spec hap
  unfold OpI at *
  simp only [hj] at *
  rw [wanted_put oj a oi.dst v h1] at h
  split
  · rename_i hw
    rw [if_pos hw] at h
    unfold OpR at *
    rw [execOp_put oj hsj a oi.dst v h1] at h
    generalize (execOp a.eval oj).run P w = r at *
    cases r with
    | halt x w' => exact h
    | ok n w' =>
      cases n <;> first
        | exact h
        | exact ⟨keep _, by rw [← Act.put_comm a v _ h2]; exact h⟩
        | exact Calls.mono h fun e w'' ⟨u, e1, k⟩ => ⟨u, e1, keep _, by rw [← Act.put_comm a v u h2]; exact k⟩
  · rename_i hw
    rw [if_neg hw] at h
    exact ⟨keep _, by rw [← Act.put_comm a v undef h2]; exact h⟩
def AnyE (P : Program) (ops : Array Oper) (S : World → Prop) (Q : Exit → Act → World → Prop) : Nat → Array Bool → Act → World → Prop
  | 0, listed, a, w => Region.ready .any ops listed = [] ∧ Q .normal a w
  | k + 1, listed, a, w => (Region.ready .any ops listed = [] → Q .normal a w) ∧
    ∀ i ∈ Region.ready .any ops listed, OpI P ops i a w fun a' w' => S w' ∧ AnyE P ops S Q k (listed.setIfInBounds i true) a' w'
theorem AnyE.wpAny {P : Program} {ops : Array Oper} {S : World → Prop} {Q Q' : Exit → Act → World → Prop} (hq : ∀ a w, Q .normal a w → Q' .normal a w) : ∀ (k : Nat) (listed : Array Bool) (a : Act) (w : World), AnyE P ops S Q k listed a w → Go.wpAny P .any ops Q' k listed a w
  | 0, _, _, _, h => ⟨h.1, hq _ _ h.2⟩
  | k + 1, _, _, _, h => ⟨fun e => hq _ _ (h.1 e), fun i hi => ((h.2 i hi).mono fun _ _ q => AnyE.wpAny hq k _ _ _ q.2).wpOp⟩
theorem AnyE.first {P : Program} {ops : Array Oper} {S : World → Prop} {Q : Exit → Act → World → Prop} {i : Nat} {oi : Oper} {v : Value} (hi : ops[i]? = some oi) (hsel : ∀ (j : Nat) (o : Oper) cs b, ops[j]? = some o → o.op ≠ .select cs b) :
    ∀ (fuel : Nat) (listed : Array Bool) (a : Act) (w : World), S w →
      (∀ j oj, ops[j]? = some oj → j ≠ i → listed.getD j true = false → (∀ e ∈ oj.after, Region.binds .any e = true → e.on ≠ i) → oi.apart ops oj = true) →
      i ∈ Region.ready .any ops listed → YieldsS P ops S oi v a →
      AnyE P ops S Q fuel (listed.setIfInBounds i true) (a.put oi.dst v) w → AnyE P ops S Q (fuel + 1) listed a w := by
  intro fuel
  induction fuel with
  | zero =>
    intro listed a w hs _ hr hy H
    refine ⟨fun h => (by rw [h] at hr; cases hr), fun j hj => ?_⟩
    by_cases hji : j = i
    · subst hji; exact hy.opI hi hs ⟨hs, H⟩
    · have := ready_mono hj hji
      rw [H.1] at this
      cases this
  | succ fuel ih =>
    intro listed a w hs hfree hr hy H
    refine ⟨fun h => (by rw [h] at hr; cases hr), fun j hj => ?_⟩
    by_cases hji : j = i
    · subst hji; exact hy.opI hi hs ⟨hs, H⟩
    · have h1 := H.2 j (ready_mono hj hji)
      obtain ⟨hjun, oj, hoj, hall⟩ := mem_ready.1 hj
      have hnot : ∀ e ∈ oj.after, Region.binds .any e = true → e.on ≠ i := fun e he hb heq => by
        have h1 := hall e he hb
        rw [heq] at h1
        exact getD_tf (mem_ready.1 hr).1 h1
      have hap := hfree j oj hoj hji hjun hnot
      have h3 := (Oper.apart_spec hap).2.2
      have h2 := OpI.putG hoj hap (fun cs b => hsel j oj cs b hoj) (YieldsS P ops S oi v) (fun u => hy.of_same (execOp_put oi (fun cs b => hsel i oi cs b hi) a oj.dst u h3) (wanted_put oi a oj.dst u h3)) h1
      have hfree' : ∀ k ok, ops[k]? = some ok → k ≠ i → (listed.setIfInBounds j true).getD k true = false →
          (∀ e ∈ ok.after, Region.binds .any e = true → e.on ≠ i) → oi.apart ops ok = true := fun k ok hk hki hun hno => by
        refine hfree k ok hk hki ?_ hno
        by_cases hjk : j = k
        · subst hjk; exact hjun
        · rw [getD_set_ne true hjk] at hun; exact hun
      refine h2.mono fun a' w' ⟨hy', hs', h3⟩ => ⟨hs', ih (listed.setIfInBounds j true) a' w' hs' hfree' (ready_mono hr (Ne.symm hji)) hy' ?_⟩
      rw [Array.setIfInBounds_comm _ _ hji]
      exact h3
/-- what is left of a region, in whatever order -/
def AE (P : Program) (n : Nat) (ops : Array Oper) (k : Nat) (listed : Array Bool) (f : Fr) (E : Env) (H : List HProp) (K : Kont) : Prop :=
  ∀ w a, Rel n f a.tmps → a.defers = [] → St E H w → AnyE P ops (St E []) (Post n E K) k listed a w
theorem St.bare {E : Env} {H : List HProp} {w : World} (s : St E H w) : St E [] w := (St.dropAll (A := H) (H := []) (by simpa using s))
def AtAll : List HProp → Env → Prop
  | [], _ => True
  | A :: R, E => At A E ∧ AtAll R E
theorem AtAll.mk : ∀ {R : List HProp} {E : Env}, (∀ A ∈ R, At A E) → AtAll R E
  | [], _, _ => trivial
  | A :: R, E, h => ⟨h A (.head _), AtAll.mk fun B hB => h B (.tail _ hB)⟩
section
variable {P : Program} {n : Nat} {f : Fr} {E : Env} {H : List HProp} {K : Kont} {ops : Array Oper} {k : Nat} {listed : Array Bool} {F : List Ent} {dd : Nat} {op : Op} {ty : TypeId} {pos : String} {aft : Array Edge} {v : Value}
/-- some of what is owned stays as it is while the region runs -/
theorem Body.drawE {id : Nat} {l : List Oper} (is : List Nat) (hm : P.follows .mixedOrders = true) {R H1 : List HProp} (hp : pick is H = some (R, H1))
    (h : ∀ E', E.Le E' → AtAll R E' → AE P n l.toArray l.length (Array.replicate l.length false) f E' H1 (fun e f H' => K e f (H' ++ R))) : Body P n (.region id l.toArray true) f E H K := fun w a r d s => by
  have s1 : St E (H1 ++ R) w := (s.perm (pick_perm hp)).perm List.perm_append_comm
  obtain ⟨E', le, hat, s2, back⟩ := s1.frame
  refine wp_region_any hm (AnyE.wpAny (fun a w q => ?_) _ _ _ _ (by
    have := h E' le (AtAll.mk hat) { w with drawn := w.drawn + 1 } a r d (s2.ext ⟨Hp.Le.refl _, rfl, rfl, rfl⟩)
    simpa using this))
  obtain ⟨d', f', H', r', k', s'⟩ := q
  exact ⟨d', f', H' ++ R, r', k', back _ _ s'⟩
theorem AE.done (hr : (Region.ready .any ops listed).isEmpty = true) (h : K .norm f H) : AE P n ops k listed f E H K := fun w a r d s => by
  have hr' : Region.ready .any ops listed = [] := by simpa using hr
  cases k with
  | zero => exact ⟨hr', d, f, H, r, h, s⟩
  | succ k => exact ⟨fun _ => ⟨d, f, H, r, h, s⟩, fun i hi => by rw [hr'] at hi; cases hi⟩
theorem AE.firstY (i : Nat) {o : Oper} {v : Value} (hi : ops[i]? = some o) (hB : firstB ops listed i = true) (hd : okD n o.dst = true) (hy : ∀ w a, Rel n f a.tmps → St E H w → YieldsS P ops (St E []) o v a)
    (hk : AE P n ops k (listed.setIfInBounds i true) (updO f o.dst v) E H K) : AE P n ops (k + 1) listed f E H K := fun w a r d s => by
  simp only [firstB, Bool.and_eq_true] at hB
  have hr : i ∈ Region.ready .any ops listed := by simpa using hB.1.2
  exact AnyE.first hi (Region.noSelect_spec hB.1.1) k listed a w s.bare (Region.free_spec hi hB.2) hr (hy w a r s) (hk w _ (r.put hd v) ((put_defers _ _ _).trans d) s)
theorem AE.u (i : Nat) (hi : ops[i]? = some ⟨some dd, op, ty, pos, aft, none⟩) (hB : firstB ops listed i = true) (h : Dtu P n (fr F) E H ⟨some dd, op, ty, pos, aft, none⟩ v) (hd : Nat.blt dd n = true)
    (hk : AE P n ops k (listed.setIfInBounds i true) (fr (.set dd v :: F)) E H K) : AE P n ops (k + 1) listed (fr F) E H K :=
  AE.firstY i hi hB hd (fun w a r s => .inl ⟨wanted_none rfl _, fun w' _ => h w s w' a r⟩) hk
/-- a load of what stays -/
theorem AE.d (i : Nat) (hi : ops[i]? = some ⟨some dd, op, ty, pos, aft, none⟩) (hB : firstB ops listed i = true) (h : Det P n (fr F) E [] ⟨some dd, op, ty, pos, aft, none⟩ v) (hd : Nat.blt dd n = true)
    (hk : AE P n ops k (listed.setIfInBounds i true) (fr (.set dd v :: F)) E H K) : AE P n ops (k + 1) listed (fr F) E H K :=
  AE.firstY i hi hB hd (fun w a r s => .inl ⟨wanted_none rfl _, fun w' s' => h w' a r s'⟩) hk
theorem AE.gu (i : Nat) {j t : Nat} {b : Bool} (hi : ops[i]? = some ⟨some dd, op, ty, pos, aft, some (j, b)⟩) (hB : firstB ops listed i = true) (hj : guardSlot ops j = some t) (ht : Nat.blt t n = true) (hb : look F t = some (.bool b))
    (h : Dtu P n (fr F) E H ⟨some dd, op, ty, pos, aft, some (j, b)⟩ v) (hd : Nat.blt dd n = true) (hk : AE P n ops k (listed.setIfInBounds i true) (fr (.set dd v :: F)) E H K) : AE P n ops (k + 1) listed (fr F) E H K :=
  AE.firstY i hi hB hd (fun w a r s => .inl ⟨by simp only [Region.wanted, yielded_rel r hj ht (Option.some.inj ((look_fr F t).symm.trans hb))]; simp, fun w' _ => h w s w' a r⟩) hk
theorem AE.gd (i : Nat) {j t : Nat} {b : Bool} (hi : ops[i]? = some ⟨some dd, op, ty, pos, aft, some (j, b)⟩) (hB : firstB ops listed i = true) (hj : guardSlot ops j = some t) (ht : Nat.blt t n = true) (hb : look F t = some (.bool b))
    (h : Det P n (fr F) E [] ⟨some dd, op, ty, pos, aft, some (j, b)⟩ v) (hd : Nat.blt dd n = true) (hk : AE P n ops k (listed.setIfInBounds i true) (fr (.set dd v :: F)) E H K) : AE P n ops (k + 1) listed (fr F) E H K :=
  AE.firstY i hi hB hd (fun w a r s => .inl ⟨by simp only [Region.wanted, yielded_rel r hj ht (Option.some.inj ((look_fr F t).symm.trans hb))]; simp, fun w' s' => h w' a r s'⟩) hk
theorem AE.gn (i : Nat) {j t : Nat} {b : Bool} {v : Value} (hi : ops[i]? = some ⟨some dd, op, ty, pos, aft, some (j, b)⟩) (hB : firstB ops listed i = true) (hj : guardSlot ops j = some t) (ht : Nat.blt t n = true) (hb : look F t = some v) (hne : isB v b = false)
    (hd : Nat.blt dd n = true) (hk : AE P n ops k (listed.setIfInBounds i true) (fr (.set dd undef :: F)) E H K) : AE P n ops (k + 1) listed (fr F) E H K :=
  AE.firstY i hi hB hd (fun w a r s => .inr ⟨wanted_rel r rfl hj ht (by rw [Option.some.inj ((look_fr F t).symm.trans hb)]; exact hne), rfl⟩) hk
theorem AE.decP (t : Nat) {p : Prop} {_ : Decidable p} (hb : look F t = some (.bool (decide p))) (h1 : p → AE P n ops k listed (fr (.set t (.bool true) :: F)) E H K) (h2 : ¬ p → AE P n ops k listed (fr (.set t (.bool false) :: F)) E H K) : AE P n ops k listed (fr F) E H K := by
  by_cases hp : p
  · rw [fr_decide hb (decide_eq_true hp)]; exact h1 hp
  · rw [fr_decide hb (decide_eq_false hp)]; exact h2 hp
theorem AE.dec (t : Nat) {b : Bool} (hb : look F t = some (.bool b)) (h1 : b = true → AE P n ops k listed (fr (.set t (.bool true) :: F)) E H K) (h2 : b = false → AE P n ops k listed (fr (.set t (.bool false) :: F)) E H K) : AE P n ops k listed (fr F) E H K := by
  cases hc : b with
  | true => rw [fr_decide hb hc]; exact h1 hc
  | false => rw [fr_decide hb hc]; exact h2 hc
/-- i comes up next -/
def AEI (P : Program) (n : Nat) (ops : Array Oper) (k : Nat) (listed : Array Bool) (f : Fr) (E : Env) (H : List HProp) (K : Kont) (i : Nat) : Prop :=
  ∀ w a, Rel n f a.tmps → a.defers = [] → St E H w → OpI P ops i a w fun a' w' => St E [] w' ∧ AnyE P ops (St E []) (Post n E K) k (listed.setIfInBounds i true) a' w'
/-- each of these may come up next -/
def AEs (P : Program) (n : Nat) (ops : Array Oper) (k : Nat) (listed : Array Bool) (f : Fr) (E : Env) (H : List HProp) (K : Kont) : List Nat → Prop
  | [] => True
  | i :: r => AEI P n ops k listed f E H K i ∧ AEs P n ops k listed f E H K r
theorem AEs.get : ∀ {is : List Nat} {i : Nat}, AEs P n ops k listed f E H K is → i ∈ is → AEI P n ops k listed f E H K i
  | _ :: _, _, h, .head _ => h.1
  | _ :: _, _, h, .tail _ m => AEs.get h.2 m
theorem AE.more (is : List Nat) (hB : (Region.ready .any ops listed == is) = true) (hne : is.isEmpty = false) (h : AEs P n ops k listed f E H K is) : AE P n ops (k + 1) listed f E H K := fun w a r d s => by
  have hr : Region.ready .any ops listed = is := by simpa using hB
  refine ⟨fun e => ?_, fun j hj => ?_⟩
  · rw [hr] at e; rw [e] at hne; simp at hne
  · exact AEs.get h (hr ▸ hj) w a r d s
theorem AEI.mk {q : Bool} {i : Nat} {o : Oper} (hi : ops[i]? = some o) (hg : o.guard = none) (hd : okD n o.dst = true)
    (h : Stp q P n f E H o fun v H' => AE P n ops k (listed.setIfInBounds i true) (updO f o.dst v) E H' K) : AEI P n ops k listed f E H K i := fun w a r d s => by
  unfold OpI
  simp only [hi]
  rw [if_pos (wanted_none hg _)]
  refine (h w a r s).mono ?_
  rintro v w' ⟨x, H', kk, s'⟩
  exact ⟨s'.bare, kk w' _ (r.put hd v) ((put_defers _ _ _).trans d) s'⟩
theorem AEI.mkG {q : Bool} {i : Nat} {o : Oper} {j t : Nat} {b : Bool} (hi : ops[i]? = some o) (hg : o.guard = some (j, b)) (hj : guardSlot ops j = some t) (ht : Nat.blt t n = true) (hb : f t = .bool b) (hd : okD n o.dst = true)
    (h : Stp q P n f E H o fun v H' => AE P n ops k (listed.setIfInBounds i true) (updO f o.dst v) E H' K) : AEI P n ops k listed f E H K i := fun w a r d s => by
  unfold OpI
  simp only [hi]
  rw [if_pos (by simp only [Region.wanted, hg, yielded_rel r hj ht hb]; simp)]
  refine (h w a r s).mono ?_
  rintro v w' ⟨x, H', kk, s'⟩
  exact ⟨s'.bare, kk w' _ (r.put hd v) ((put_defers _ _ _).trans d) s'⟩
theorem AEI.d {i : Nat} (hi : ops[i]? = some ⟨some dd, op, ty, pos, aft, none⟩) (h : Det P n (fr F) E H ⟨some dd, op, ty, pos, aft, none⟩ v) (hd : Nat.blt dd n = true)
    (hk : AE P n ops k (listed.setIfInBounds i true) (fr (.set dd v :: F)) E H K) : AEI P n ops k listed (fr F) E H K i := AEI.mk hi rfl hd (Det.stp h hk)
theorem AEI.s {q : Bool} {i : Nat} (hi : ops[i]? = some ⟨some dd, op, ty, pos, aft, none⟩) (h : Stp q P n (fr F) E H ⟨some dd, op, ty, pos, aft, none⟩ fun v H' => AE P n ops k (listed.setIfInBounds i true) (fr (.set dd v :: F)) E H' K) (hd : Nat.blt dd n = true) : AEI P n ops k listed (fr F) E H K i := AEI.mk hi rfl hd h
theorem AEI.e {q : Bool} {i : Nat} (hi : ops[i]? = some ⟨none, op, ty, pos, aft, none⟩)
    (h : Stp q P n (fr F) E H ⟨none, op, ty, pos, aft, none⟩ fun _ H' => AE P n ops k (listed.setIfInBounds i true) (fr F) E H' K) : AEI P n ops k listed (fr F) E H K i := AEI.mk hi rfl rfl h
theorem AEI.gd {i : Nat} {j t : Nat} {b : Bool} (hi : ops[i]? = some ⟨some dd, op, ty, pos, aft, some (j, b)⟩) (hj : guardSlot ops j = some t) (ht : Nat.blt t n = true) (hb : look F t = some (.bool b)) (h : Det P n (fr F) E H ⟨some dd, op, ty, pos, aft, some (j, b)⟩ v) (hd : Nat.blt dd n = true)
    (hk : AE P n ops k (listed.setIfInBounds i true) (fr (.set dd v :: F)) E H K) : AEI P n ops k listed (fr F) E H K i := AEI.mkG hi rfl hj ht (Option.some.inj ((look_fr F t).symm.trans hb)) hd (Det.stp h hk)
theorem AEI.gs {q : Bool} {i : Nat} {j t : Nat} {b : Bool} (hi : ops[i]? = some ⟨some dd, op, ty, pos, aft, some (j, b)⟩) (hj : guardSlot ops j = some t) (ht : Nat.blt t n = true) (hb : look F t = some (.bool b))
    (h : Stp q P n (fr F) E H ⟨some dd, op, ty, pos, aft, some (j, b)⟩ fun v H' => AE P n ops k (listed.setIfInBounds i true) (fr (.set dd v :: F)) E H' K) (hd : Nat.blt dd n = true) : AEI P n ops k listed (fr F) E H K i :=
  AEI.mkG hi rfl hj ht (Option.some.inj ((look_fr F t).symm.trans hb)) hd h
theorem AE.pure {p : Prop} (hp : ∀ w, St E H w → p) (h : p → AE P n ops k listed f E H K) : AE P n ops k listed f E H K := fun w a r d s => h (hp w s) w a r d s
theorem AE.conseq {H' : List HProp} (hs : ∀ w, St E H w → St E H' w) (h : AE P n ops k listed f E H' K) : AE P n ops k listed f E H K := fun w a r d s => h w a r d (hs w s)
end
end Go.Sx
end
