/- Qc: SxC, SxD, SxE. -/
import Derived.Lib.ConvBytes
import Derived.Deep.Slices
import Derived.Test.YtpmapedhigjalaaRna
import Derived.Test.YtpmapedhigjalaaRnb
section
/- My own logic of ownership over the model, part C: texts as bytes; functions that hold variables. -/
namespace Go.Sx
open Go
set_option linter.unusedVariables false
/-- an object more -/
theorem St.more {E : Env} {H : List HProp} {w w' : World} (s : St E H w) (o : Obj) (A : HProp) (hA : A (Hp.one w.heap.size o)) (hold : ∀ j, j < w.heap.size → w'.heap[j]? = w.heap[j]?) (hnew : w'.heap[w.heap.size]? = some o) (hos : w'.os = w.os) (htape : w'.tape = w.tape) (hout : w'.output = w.output) :
    St E (A :: H) w' ∧ Ext w w' := by
  have hn : hpOf w w.heap.size = none := by simp [hpOf]
  have hle : (hpOf w).Le (hpOf w') := by
    intro n o' h
    have hlt : n < w.heap.size := by
      have : w.heap[n]? = some o' := h
      exact (Array.getElem?_eq_some_iff.1 this).1
    show w'.heap[n]? = some o'
    rw [hold n hlt]; exact h
  obtain ⟨h, a, dE, l⟩ := s.has
  have dn : ∀ x : Hp, x.Le (hpOf w) → (Hp.one w.heap.size o).Disj x := fun x lx => Hp.one_disj (by
    cases hx : x w.heap.size with
    | none => rfl
    | some o => have := lx _ _ hx; rw [hn] at this; cases this)
  refine ⟨⟨⟨(Hp.one w.heap.size o).union h, ⟨_, h, hA, a, dn h l, rfl⟩, Hp.Disj.union_right (dn _ s.keep).symm dE, Hp.union_le (Hp.one_le hnew) (l.trans hle)⟩,
    s.keep.trans hle, hos.trans s.os, htape.trans s.tape, hout.trans s.output⟩, ⟨hle, hos, htape, hout⟩⟩
section
variable {P : Program} {n : Nat} {f : Fr} {E : Env} {H : List HProp} {d : Option Nat} {ty : TypeId} {pos : String} {aft : Array Edge} {g : Option (Nat × Bool)} {x y z : Operand} {K : Value → List HProp → Prop}
end
end Go.Sx
end
section
/- My own logic of ownership over the model, part D: open order where reads and stores may change places. -/
namespace Go.Sx
open Go
set_option linter.unusedVariables false
def AnyW (P : Program) (ops : Array Oper) (Q : Exit → Act → World → Prop) : Nat → Array Bool → Act → World → Prop
  | 0, listed, a, w => Region.ready .any ops listed = [] ∧ Q .normal a w
  | k + 1, listed, a, w => (Region.ready .any ops listed = [] → Q .normal a w) ∧
    ∀ i ∈ Region.ready .any ops listed, OpI P ops i a w fun a' w' => AnyW P ops Q k (listed.setIfInBounds i true) a' w'
theorem AnyW.wpAny {P : Program} {ops : Array Oper} {Q : Exit → Act → World → Prop} : ∀ (k : Nat) (listed : Array Bool) (a : Act) (w : World), AnyW P ops Q k listed a w → Go.wpAny P .any ops Q k listed a w
  | 0, _, _, _, h => h
  | k + 1, _, _, _, h => ⟨h.1, fun i hi => ((h.2 i hi).mono fun _ _ q => AnyW.wpAny k _ _ _ q).wpOp⟩
theorem AnyW.firstU {P : Program} {ops : Array Oper} {Q : Exit → Act → World → Prop} {i : Nat} {oi : Oper} {v : Value} (hi : ops[i]? = some oi) (hsel : ∀ (j : Nat) (o : Oper) cs b, ops[j]? = some o → o.op ≠ .select cs b) :
    ∀ (fuel : Nat) (listed : Array Bool) (a : Act) (w : World),
      (∀ j oj, ops[j]? = some oj → j ≠ i → listed.getD j true = false → (∀ e ∈ oj.after, Region.binds .any e = true → e.on ≠ i) → oi.apart ops oj = true) →
      i ∈ Region.ready .any ops listed → Yields P ops oi v a →
      AnyW P ops Q fuel (listed.setIfInBounds i true) (a.put oi.dst v) w → AnyW P ops Q (fuel + 1) listed a w := by
  intro fuel
  induction fuel with
  | zero =>
    intro listed a w _ hr hy H
    refine ⟨fun h => (by rw [h] at hr; cases hr), fun j hj => ?_⟩
    by_cases hji : j = i
    · subst hji; exact yieldsU_opI hi hy H
    · have := ready_mono hj hji
      rw [H.1] at this
      cases this
  | succ fuel ih =>
    intro listed a w hfree hr hy H
    refine ⟨fun h => (by rw [h] at hr; cases hr), fun j hj => ?_⟩
    by_cases hji : j = i
    · subst hji; exact yieldsU_opI hi hy H
    · have h1 := H.2 j (ready_mono hj hji)
      obtain ⟨hjun, oj, hoj, hall⟩ := mem_ready.1 hj
      have hnot : ∀ e ∈ oj.after, Region.binds .any e = true → e.on ≠ i := fun e he hb heq => by
        have h1 := hall e he hb
        rw [heq] at h1
        exact getD_tf (mem_ready.1 hr).1 h1
      have h2 := OpI.putU hoj (hfree j oj hoj hji hjun hnot) (fun cs b => hsel i oi cs b hi) (fun cs b => hsel j oj cs b hoj) hy h1
      have hfree' : ∀ k ok, ops[k]? = some ok → k ≠ i → (listed.setIfInBounds j true).getD k true = false →
          (∀ e ∈ ok.after, Region.binds .any e = true → e.on ≠ i) → oi.apart ops ok = true := fun k ok hk hki hun hno => by
        refine hfree k ok hk hki ?_ hno
        by_cases hjk : j = k
        · subst hjk; exact hjun
        · rw [getD_set_ne true hjk] at hun; exact hun
      refine h2.mono fun a' w' ⟨hy', h3⟩ => ih (listed.setIfInBounds j true) a' w' hfree' (ready_mono hr (Ne.symm hji)) hy' ?_
      rw [Array.setIfInBounds_comm _ _ hji]
      exact h3
/-- what is left of a region, in whatever order -/
def AW (P : Program) (n : Nat) (ops : Array Oper) (k : Nat) (listed : Array Bool) (f : Fr) (E : Env) (H : List HProp) (K : Kont) : Prop :=
  ∀ w a, Rel n f a.tmps → a.defers = [] → St E H w → AnyW P ops (Post n E K) k listed a w
section
variable {P : Program} {n : Nat} {f : Fr} {E : Env} {H : List HProp} {K : Kont} {ops : Array Oper} {k : Nat} {listed : Array Bool} {F : List Ent} {dd : Nat} {op : Op} {ty : TypeId} {pos : String} {aft : Array Edge} {v : Value}
theorem AW.done (hr : (Region.ready .any ops listed).isEmpty = true) (h : K .norm f H) : AW P n ops k listed f E H K := fun w a r d s => by
  have hr' : Region.ready .any ops listed = [] := by simpa using hr
  cases k with
  | zero => exact ⟨hr', d, f, H, r, h, s⟩
  | succ k => exact ⟨fun _ => ⟨d, f, H, r, h, s⟩, fun i hi => by rw [hr'] at hi; cases hi⟩
theorem AW.firstU (i : Nat) {o : Oper} {v : Value} (hi : ops[i]? = some o) (hB : firstB ops listed i = true) (hg : o.guard = none) (hd : okD n o.dst = true) (h : Dtu P n f E H o v)
    (hk : AW P n ops k (listed.setIfInBounds i true) (updO f o.dst v) E H K) : AW P n ops (k + 1) listed f E H K := fun w a r d s => by
  simp only [firstB, Bool.and_eq_true] at hB
  have hr : i ∈ Region.ready .any ops listed := by simpa using hB.1.2
  exact AnyW.firstU hi (Region.noSelect_spec hB.1.1) k listed a w (Region.free_spec hi hB.2) hr (.inl ⟨wanted_none hg _, fun w' => h w s w' a r⟩)
    (hk w _ (r.put hd v) ((put_defers _ _ _).trans d) s)
theorem AW.u (i : Nat) (hi : ops[i]? = some ⟨some dd, op, ty, pos, aft, none⟩) (hB : firstB ops listed i = true) (h : Dtu P n (fr F) E H ⟨some dd, op, ty, pos, aft, none⟩ v) (hd : Nat.blt dd n = true)
    (hk : AW P n ops k (listed.setIfInBounds i true) (fr (.set dd v :: F)) E H K) : AW P n ops (k + 1) listed (fr F) E H K := AW.firstU i hi hB rfl hd h hk
/-- i comes up next -/
def AWI (P : Program) (n : Nat) (ops : Array Oper) (k : Nat) (listed : Array Bool) (f : Fr) (E : Env) (H : List HProp) (K : Kont) (i : Nat) : Prop :=
  ∀ w a, Rel n f a.tmps → a.defers = [] → St E H w → OpI P ops i a w fun a' w' => AnyW P ops (Post n E K) k (listed.setIfInBounds i true) a' w'
/-- each of these may come up next -/
def AWs (P : Program) (n : Nat) (ops : Array Oper) (k : Nat) (listed : Array Bool) (f : Fr) (E : Env) (H : List HProp) (K : Kont) : List Nat → Prop
  | [] => True
  | i :: r => AWI P n ops k listed f E H K i ∧ AWs P n ops k listed f E H K r
theorem AWs.get : ∀ {is : List Nat} {i : Nat}, AWs P n ops k listed f E H K is → i ∈ is → AWI P n ops k listed f E H K i
  | _ :: _, _, h, .head _ => h.1
  | _ :: _, _, h, .tail _ m => AWs.get h.2 m
theorem AW.more (is : List Nat) (hB : (Region.ready .any ops listed == is) = true) (hne : is.isEmpty = false) (h : AWs P n ops k listed f E H K is) : AW P n ops (k + 1) listed f E H K := fun w a r d s => by
  have hr : Region.ready .any ops listed = is := by simpa using hB
  refine ⟨fun e => ?_, fun j hj => ?_⟩
  · rw [hr] at e; rw [e] at hne; simp at hne
  · exact AWs.get h (hr ▸ hj) w a r d s
theorem AWI.mk {q : Bool} {i : Nat} {o : Oper} (hi : ops[i]? = some o) (hg : o.guard = none) (hd : okD n o.dst = true)
    (h : Stp q P n f E H o fun v H' => AW P n ops k (listed.setIfInBounds i true) (updO f o.dst v) E H' K) : AWI P n ops k listed f E H K i := fun w a r d s => by
  unfold OpI
  simp only [hi]
  rw [if_pos (wanted_none hg _)]
  refine (h w a r s).mono ?_
  rintro v w' ⟨x, H', kk, s'⟩
  exact kk w' _ (r.put hd v) ((put_defers _ _ _).trans d) s'
theorem AWI.d {i : Nat} (hi : ops[i]? = some ⟨some dd, op, ty, pos, aft, none⟩) (h : Det P n (fr F) E H ⟨some dd, op, ty, pos, aft, none⟩ v) (hd : Nat.blt dd n = true)
    (hk : AW P n ops k (listed.setIfInBounds i true) (fr (.set dd v :: F)) E H K) : AWI P n ops k listed (fr F) E H K i := AWI.mk hi rfl hd (Det.stp h hk)
theorem AWI.e {q : Bool} {i : Nat} (hi : ops[i]? = some ⟨none, op, ty, pos, aft, none⟩)
    (h : Stp q P n (fr F) E H ⟨none, op, ty, pos, aft, none⟩ fun _ H' => AW P n ops k (listed.setIfInBounds i true) (fr F) E H' K) : AWI P n ops k listed (fr F) E H K i := AWI.mk hi rfl rfl h
end
end Go.Sx
end
section
/- My own logic of ownership over the model, part E: owned slices that are only read, or nil; slices of structs that come in. -/
namespace Go.Sx
open Go Go.ChangeShapes
set_option linter.unusedVariables false
theorem Sl.lit {E : Env} {H : List HProp} {sz m k c : Nat} {a : Option Addr} {vs : List Value} (h : Sl E H sz (.slice a m c) k vs) : ∀ w, St E H w → m = k ∧ k ≤ c ∧ c ≤ 9223372036854775807 := fun w s => by
  obtain ⟨h1, h2, _⟩ := (h w s).cap
  simp only [capOf] at h1 h2
  exact ⟨Sl.litLen h w s, h1, by unfold maxLen at h2; exact h2⟩
section
variable {P : Program} {n : Nat} {f : Fr} {E : Env} {H : List HProp}
theorem AB.conseq {ops : Array Oper} {k : Nat} {listed : Array Bool} {K : Kont} {H' : List HProp} (hs : ∀ w, St E H w → St E H' w) (h : AB P n ops k listed f E H' K) : AB P n ops k listed f E H K := fun hc w a r d s => h hc w a r d (hs w s)
theorem Does.conseq {g : FuncId} {args : Array Value} {Q : Value → List HProp → Prop} {H' : List HProp} (hs : ∀ w, St E H w → St E H' w) (h : Does P g args E H' Q) : Does P g args E H Q := fun w s => h w (hs w s)
end
section
variable {P : Program} {n : Nat} {f : Fr} {E : Env} {H : List HProp} {d : Option Nat} {ty : TypeId} {pos : String} {aft : Array Edge} {g : Option (Nat × Bool)} {x lo hi mx : Operand} {t e : TypeId} {sz m : Nat} {v : Value} {vs : List Value} {k1 k2 k3 : IntKind} {a b c : Int}
end
section
variable {P : Program} {n : Nat} {f : Fr} {E : Env} {H : List HProp} {K : Kont} {ops : Array Oper} {k : Nat} {listed : Array Bool} {F : List Ent} {dd : Nat} {op : Op} {ty : TypeId} {pos : String} {aft : Array Edge} {v : Value}
theorem AWI.s {q : Bool} {i : Nat} (hi : ops[i]? = some ⟨some dd, op, ty, pos, aft, none⟩) (h : Stp q P n (fr F) E H ⟨some dd, op, ty, pos, aft, none⟩ fun v H' => AW P n ops k (listed.setIfInBounds i true) (fr (.set dd v :: F)) E H' K) (hd : Nat.blt dd n = true) : AWI P n ops k listed (fr F) E H K i := AWI.mk hi rfl hd h
theorem AW.pure {p : Prop} (hp : ∀ w, St E H w → p) (h : p → AW P n ops k listed f E H K) : AW P n ops k listed f E H K := fun w a r d s => h (hp w s) w a r d s
theorem AW.conseq {H' : List HProp} (hs : ∀ w, St E H w → St E H' w) (h : AW P n ops k listed f E H' K) : AW P n ops k listed f E H K := fun w a r d s => h w a r d (hs w s)
end
theorem flatLenE {α : Type} {en : α → List Value} {sz : Nat} (hl : ∀ x, (en x).length = sz) (l : List α) : (l.flatMap en).length = l.length * sz := by
  induction l with
  | nil => simp
  | cons c t ih => rw [List.flatMap_cons, List.length_append, ih, hl, List.length_cons, Nat.add_mul, Nat.one_mul, Nat.add_comm]
section
variable {P : Program} {n : Nat} {f : Fr} {E : Env} {H : List HProp}
/-- a store of a whole element -/
theorem Stp.storeF (i : Nat) {α : Type} {en : α → List Value} {sz : Nat} (hl : ∀ x, (en x).length = sz) {xs : List α} {k : Nat} {y : α} {d : Option Nat} {ty : TypeId} {pos : String} {aft : Array Edge} {g : Option (Nat × Bool)} {x z : Operand} {K : Value → List HProp → Prop} {T t : TypeId} {m : Nat} {v : Value} {H' : List HProp}
    (hm : ∀ w, (sizeOf T).run P w = .ok sz w) (hi : H[i]? = some (osl t sz v m (xs.flatMap en))) (hx : ev f x = .pointer (some ⟨blkOf v, offOf v + k * sz, none⟩)) (hz : ev f z = .agg (en y).toArray) (h1 : (en y).all (·.oneCell') = true)
    (hk : k < xs.length) (hp : 0 < sz) (hH : setL H i (osl t sz v m ((xs.set k y).flatMap en)) = some H') (kk : K undef H') : Stp false P n f E H ⟨d, .store T x z, ty, pos, aft, g⟩ K := by
  obtain rfl := setL_eq hH
  have hlen : (xs.flatMap en).length = xs.length * sz := flatLenE hl xs
  have hb : (k + 1) * sz ≤ xs.length * sz := Nat.mul_le_mul_right _ hk
  rw [Nat.add_mul, Nat.one_mul] at hb
  refine Stp.storeS i (p := k * sz) (us := en y) (by rw [hl]; exact hm) hi hx hz rfl (by rw [hlen, hl]; omega) (by rw [hl]; exact hp) h1 ?_
  rw [hl, flat_set hl hk]
  exact kk
end
/-- what was there, a row of cells of it -/
theorem Rds.at {E : Env} {H : List HProp} {b off m : Nat} {vs us : List Value} {t : TypeId} (h : At (own b vs t) E) (hv : forceL ((vs.drop off).take m) = some us) : Rds E H b off us := fun j u hj => by
  obtain rfl := forceL_eq hv
  refine Rd.env (own_at h ?_)
  rw [List.getElem?_take] at hj
  split at hj
  · rw [List.getElem?_drop] at hj; exact hj
  · cases hj
section
variable {P : Program} {n : Nat} {f : Fr} {E : Env} {H : List HProp} {d : Option Nat} {ty : TypeId} {pos : String} {aft : Array Edge} {g : Option (Nat × Bool)} {x y : Operand} {K : Value → List HProp → Prop}
end
/-! ### what comes in -/
section
variable {P : Program} {A : Type} {enc : TypeId × Value → A} {W : World} {base : Nat} {held : Bool} {fuel : Nat} {cs : List Value} {x : DataW A × List MemPlace}
end
end Go.Sx
end
