/- Qa: Sx0, Sx1, Sx2, Sx3, Sx4, Sx5, Sx6, Sx7, Sx8, Sx9, SxA, SxB, SxC, SxD, SxE, SxF, SxG, SxH, SxI, SxJ, SxK, SxL. -/
import Derived.WalkKit
import Derived.WalkSpells
import Derived.WalkLawsBesides
import Derived.KernelRfl
import Derived.Orders
import Derived.Scope
import Derived.Laws.StructEq
import Derived.Laws.BytesArg
import Derived.Laws.BytesString
import Derived.Lib.ConvBytes
import Derived.Deep.Slices
import Derived.Laws.IdiomRangeMap
import Derived.MapKept
section
/- The ground of the proofs of this seat: a separation logic over the model's worlds. What a step of code does is said of owned blocks of memory ('HProp') and of memory that stays as it is ('Env'); worlds themselves are not named. -/
namespace Go.Sx
open Go

/-! ### parts of a heap -/
abbrev Hp := Nat → Option Obj

def Hp.emp : Hp := fun _ => none
def Hp.one (b : Nat) (o : Obj) : Hp := fun n => if n = b then some o else none
def Hp.union (a b : Hp) : Hp := fun n => match a n with
  | some o => some o
  | none => b n
def Hp.Le (a b : Hp) : Prop := ∀ n o, a n = some o → b n = some o
def Hp.Disj (a b : Hp) : Prop := ∀ n, a n = none ∨ b n = none
def hpOf (w : World) : Hp := fun n => w.heap[n]?

theorem Hp.Le.refl (a : Hp) : a.Le a := fun _ _ h => h
theorem Hp.Le.trans {a b c : Hp} (h : a.Le b) (k : b.Le c) : a.Le c := fun n o e => k n o (h n o e)
theorem Hp.Disj.symm {a b : Hp} (h : a.Disj b) : b.Disj a := fun n => (h n).symm
theorem Hp.Disj.le {a b a' b' : Hp} (h : a.Disj b) (ha : a'.Le a) (hb : b'.Le b) : a'.Disj b' := fun n => by
  rcases h n with e | e
  · left
    cases h' : a' n with
    | none => rfl
    | some o => rw [ha n o h'] at e; cases e
  · right
    cases h' : b' n with
    | none => rfl
    | some o => rw [hb n o h'] at e; cases e
theorem Hp.emp_le (a : Hp) : Hp.emp.Le a := fun n o h => by simp [Hp.emp] at h
theorem Hp.emp_disj (a : Hp) : Hp.emp.Disj a := fun _ => .inl rfl
theorem Hp.le_union_left (a b : Hp) : a.Le (a.union b) := fun n o h => by simp [Hp.union, h]
theorem Hp.le_union_right {a b : Hp} (h : a.Disj b) : b.Le (a.union b) := fun n o e => by
  rcases h n with h | h
  · simp [Hp.union, h, e]
  · rw [h] at e; cases e
theorem Hp.union_le {a b c : Hp} (ha : a.Le c) (hb : b.Le c) : (a.union b).Le c := fun n o e => by
  unfold Hp.union at e
  cases h : a n with
  | none => rw [h] at e; exact hb n o e
  | some x => rw [h] at e; exact ha n o (by rw [h]; exact e)
theorem Hp.union_assoc (a b c : Hp) : (a.union b).union c = a.union (b.union c) := by
  funext n; simp only [Hp.union]; cases a n <;> rfl
theorem Hp.union_comm {a b : Hp} (h : a.Disj b) : a.union b = b.union a := by
  funext n; simp only [Hp.union]
  rcases h n with h | h <;> rw [h] <;> cases a n <;> cases b n <;> simp_all
theorem Hp.disj_union_left {a b c : Hp} : (a.union b).Disj c ↔ a.Disj c ∧ b.Disj c ∨ (a.union b).Disj c := ⟨fun h => .inr h, fun h => by
  rcases h with ⟨h1, h2⟩ | h
  · intro n
    rcases h1 n with e | e
    · rcases h2 n with e' | e'
      · left; simp [Hp.union, e, e']
      · exact .inr e'
    · exact .inr e
  · exact h⟩
theorem Hp.Disj.union_left {a b c : Hp} (h1 : a.Disj c) (h2 : b.Disj c) : (a.union b).Disj c := Hp.disj_union_left.2 (.inl ⟨h1, h2⟩)
theorem Hp.Disj.union_right {a b c : Hp} (h1 : a.Disj b) (h2 : a.Disj c) : a.Disj (b.union c) := (Hp.Disj.union_left h1.symm h2.symm).symm
theorem Hp.Disj.of_union_left {a b c : Hp} (h : (a.union b).Disj c) : a.Disj c := h.le (Hp.le_union_left a b) (Hp.Le.refl c)
theorem Hp.Disj.of_union_right {a b c : Hp} (hab : a.Disj b) (h : (a.union b).Disj c) : b.Disj c := h.le (Hp.le_union_right hab) (Hp.Le.refl c)
theorem Hp.one_le {b : Nat} {o : Obj} {h : Hp} (e : h b = some o) : (Hp.one b o).Le h := fun n x hx => by
  unfold Hp.one at hx
  split at hx
  · rename_i hn; subst hn; rw [← hx]; exact e
  · cases hx
theorem Hp.one_disj {b : Nat} {o : Obj} {h : Hp} (e : h b = none) : (Hp.one b o).Disj h := fun n => by
  by_cases hn : n = b
  · subst hn; exact .inr e
  · left; simp [Hp.one, hn]

/-! ### assertions -/
def HProp := Hp → Prop

/-- a heap that parts into the given assertions -/
def Sat : List HProp → Hp → Prop
  | [], h => h = Hp.emp
  | A :: H, h => ∃ h1 h2, A h1 ∧ Sat H h2 ∧ h1.Disj h2 ∧ h = h1.union h2

theorem Sat.swap {A B : HProp} {H : List HProp} {h : Hp} (s : Sat (A :: B :: H) h) : Sat (B :: A :: H) h := by
  obtain ⟨h1, h2, a, ⟨h3, h4, b, s, d2, rfl⟩, d1, rfl⟩ := s
  have d13 : h1.Disj h3 := d1.le (Hp.Le.refl _) (Hp.le_union_left _ _)
  have d14 : h1.Disj h4 := d1.le (Hp.Le.refl _) (Hp.le_union_right d2)
  refine ⟨h3, h1.union h4, b, ⟨h1, h4, a, s, d14, rfl⟩, Hp.Disj.union_right d13.symm d2, ?_⟩
  rw [← Hp.union_assoc, Hp.union_comm d13, Hp.union_assoc]
theorem Sat.perm {H H' : List HProp} (p : H.Perm H') : ∀ {h : Hp}, Sat H h → Sat H' h := by
  induction p with
  | nil => exact fun h => h
  | cons x _ ih => rintro h ⟨h1, h2, a, s, d, rfl⟩; exact ⟨h1, h2, a, ih s, d, rfl⟩
  | swap x y l => exact fun s => s.swap
  | trans _ _ ih1 ih2 => exact fun s => ih2 (ih1 s)
theorem Sat.append {H H' : List HProp} : ∀ {h : Hp}, Sat (H ++ H') h ↔ ∃ h1 h2, Sat H h1 ∧ Sat H' h2 ∧ h1.Disj h2 ∧ h = h1.union h2 := by
  induction H with
  | nil => exact fun {h} => ⟨fun s => ⟨Hp.emp, h, rfl, s, Hp.emp_disj _, rfl⟩, fun ⟨h1, h2, e, s, _, eq⟩ => by cases e; rw [eq]; exact s⟩
  | cons A H ih =>
    intro h
    constructor
    · rintro ⟨h1, h2, a, s, d, rfl⟩
      obtain ⟨h3, h4, s3, s4, d2, rfl⟩ := ih.1 s
      have d13 : h1.Disj h3 := d.le (Hp.Le.refl _) (Hp.le_union_left _ _)
      have d14 : h1.Disj h4 := d.le (Hp.Le.refl _) (Hp.le_union_right d2)
      exact ⟨h1.union h3, h4, ⟨h1, h3, a, s3, d13, rfl⟩, s4, Hp.Disj.union_left d14 d2, (Hp.union_assoc _ _ _).symm⟩
    · rintro ⟨h12, h4, ⟨h1, h3, a, s3, d13, rfl⟩, s4, d, rfl⟩
      have d14 := Hp.Disj.of_union_left d
      have d34 := Hp.Disj.of_union_right d13 d
      exact ⟨h1, h3.union h4, a, ih.2 ⟨h3, h4, s3, s4, d34, rfl⟩, Hp.Disj.union_right d13 d14, Hp.union_assoc _ _ _⟩

/-! ### memory that stays, and states -/
structure Env where
  hp : Hp
  os : Os
  tape : Nat → Question → Nat
  output : Array (Nat × ByteArray)

structure Env.Le (E E' : Env) : Prop where
  hp : E.hp.Le E'.hp
  os : E'.os = E.os
  tape : E'.tape = E.tape
  output : E'.output = E.output
theorem Env.Le.refl (E : Env) : E.Le E := ⟨Hp.Le.refl _, rfl, rfl, rfl⟩
theorem Env.Le.trans {a b c : Env} (h : a.Le b) (k : b.Le c) : a.Le c := ⟨h.hp.trans k.hp, k.os.trans h.os, k.tape.trans h.tape, k.output.trans h.output⟩

def envOf (w : World) : Env := ⟨hpOf w, w.os, w.tape, w.output⟩

/-- the world has what stays, and apart from it what is owned -/
structure St (E : Env) (H : List HProp) (w : World) : Prop where
  has : ∃ h, Sat H h ∧ E.hp.Disj h ∧ h.Le (hpOf w)
  keep : E.hp.Le (hpOf w)
  os : w.os = E.os
  tape : w.tape = E.tape
  output : w.output = E.output

/-- an assertion read in memory that stays -/
def At (A : HProp) (E : Env) : Prop := ∃ h, A h ∧ h.Le E.hp
theorem At.mono {A : HProp} {E E' : Env} (h : At A E) (le : E.Le E') : At A E' := let ⟨x, a, l⟩ := h; ⟨x, a, l.trans le.hp⟩

/-- nothing that is there is turned -/
structure Ext (w w' : World) : Prop where
  heap : (hpOf w).Le (hpOf w')
  os : w'.os = w.os
  tape : w'.tape = w.tape
  output : w'.output = w.output
theorem Ext.refl (w : World) : Ext w w := ⟨Hp.Le.refl _, rfl, rfl, rfl⟩
theorem Ext.trans {a b c : World} (h : Ext a b) (k : Ext b c) : Ext a c := ⟨h.heap.trans k.heap, k.os.trans h.os, k.tape.trans h.tape, k.output.trans h.output⟩

theorem St.ext {E : Env} {H : List HProp} {w w' : World} (s : St E H w) (x : Ext w w') : St E H w' :=
  ⟨let ⟨h, a, d, l⟩ := s.has; ⟨h, a, d, l.trans x.heap⟩, s.keep.trans x.heap, x.os.trans s.os, x.tape.trans s.tape, x.output.trans s.output⟩
theorem St.perm {E : Env} {H H' : List HProp} {w : World} (p : H.Perm H') (s : St E H w) : St E H' w :=
  ⟨let ⟨h, a, d, l⟩ := s.has; ⟨h, a.perm p, d, l⟩, s.keep, s.os, s.tape, s.output⟩
/-- an assertion may be let go -/
theorem St.drop {E : Env} {A : HProp} {H : List HProp} {w : World} (s : St E (A :: H) w) : St E H w := by
  obtain ⟨h, ⟨h1, h2, a, s2, d, rfl⟩, dE, l⟩ := s.has
  exact ⟨⟨h2, s2, dE.le (Hp.Le.refl _) (Hp.le_union_right d), (Hp.le_union_right d).trans l⟩, s.keep, s.os, s.tape, s.output⟩
theorem St.dropAll {E : Env} {A H : List HProp} {w : World} (s : St E (A ++ H) w) : St E H w := by
  induction A with
  | nil => exact s
  | cons x A ih => exact ih s.drop
theorem St.drop_tail {E : Env} {A H : List HProp} {w : World} (s : St E (A ++ H) w) : St E A w := (s.perm List.perm_append_comm).dropAll
theorem St.all {w : World} : St (envOf w) [] w := ⟨⟨Hp.emp, rfl, (Hp.emp_disj _).symm, Hp.emp_le _⟩, Hp.Le.refl _, rfl, rfl, rfl⟩
theorem St.at {E : Env} {H : List HProp} {w : World} (s : St E H w) : ∀ A ∈ H, At A (envOf w) := by
  obtain ⟨h, a, dd, l⟩ := s.has
  clear s dd
  induction H generalizing h with
  | nil => intro A hA; cases hA
  | cons B H ih =>
    obtain ⟨h1, h2, b, s2, d, rfl⟩ := a
    intro A hA
    cases hA with
    | head => exact ⟨h1, b, (Hp.le_union_left _ _).trans l⟩
    | tail _ hm => exact ih h2 s2 ((Hp.le_union_right d).trans l) A hm
theorem St.le {E : Env} {H : List HProp} {w : World} (s : St E H w) : E.Le (envOf w) := ⟨s.keep, s.os, s.tape, s.output⟩

/-- THE FRAME: what a callee owns apart from what it does not touch -/
theorem St.frame {E : Env} {Hc Hf : List HProp} {w : World} (s : St E (Hc ++ Hf) w) :
    ∃ E', E.Le E' ∧ (∀ A ∈ Hf, At A E') ∧ St E' Hc w ∧ ∀ H' w', St E' H' w' → St E (H' ++ Hf) w' := by
  obtain ⟨h, a, dE, l⟩ := s.has
  obtain ⟨h1, h2, s1, s2, d, rfl⟩ := Sat.append.1 a
  have dE1 : E.hp.Disj h1 := dE.le (Hp.Le.refl _) (Hp.le_union_left _ _)
  have dE2 : E.hp.Disj h2 := dE.le (Hp.Le.refl _) (Hp.le_union_right d)
  refine ⟨⟨E.hp.union h2, E.os, E.tape, E.output⟩, ⟨Hp.le_union_left _ _, rfl, rfl, rfl⟩, ?_, ⟨⟨h1, s1, Hp.Disj.union_left dE1 d.symm, (Hp.le_union_left _ _).trans l⟩,
    Hp.union_le s.keep ((Hp.le_union_right d).trans l), s.os, s.tape, s.output⟩, ?_⟩
  · intro A hA
    have : ∀ (H : List HProp) (h : Hp), Sat H h → A ∈ H → ∃ x, A x ∧ x.Le h := by
      intro H
      induction H with
      | nil => intro h _ hm; cases hm
      | cons B H ih =>
        rintro h ⟨h1, h2, b, s2, d, rfl⟩ hm
        cases hm with
        | head => exact ⟨h1, b, Hp.le_union_left _ _⟩
        | tail _ hm => obtain ⟨x, ax, lx⟩ := ih h2 s2 hm; exact ⟨x, ax, lx.trans (Hp.le_union_right d)⟩
    obtain ⟨x, ax, lx⟩ := this Hf h2 s2 hA
    exact ⟨x, ax, lx.trans (Hp.le_union_right dE2)⟩
  · intro H' w' s'
    obtain ⟨g, sg, dg, lg⟩ := s'.has
    have d1 : E.hp.Disj g := dg.of_union_left
    have d2 : h2.Disj g := Hp.Disj.of_union_right dE2 dg
    have lk : E.hp.Le (hpOf w') := (Hp.le_union_left _ _).trans s'.keep
    have lk2 : h2.Le (hpOf w') := (Hp.le_union_right dE2).trans s'.keep
    exact ⟨⟨g.union h2, Sat.append.2 ⟨g, h2, sg, s2, d2.symm, rfl⟩, Hp.Disj.union_right d1 dE2, Hp.union_le lg lk2⟩, lk, s'.os, s'.tape, s'.output⟩

/-- what a call that owns nothing adds -/
theorem St.add {E : Env} {H A : List HProp} {w w' : World} (s : St E H w) (s' : St (envOf w) A w') : St E (A ++ H) w' ∧ Ext w w' := by
  obtain ⟨h, a, dE, l⟩ := s.has
  obtain ⟨g, sg, dg, lg⟩ := s'.has
  exact ⟨⟨⟨g.union h, Sat.append.2 ⟨g, h, sg, a, (dg.le l (Hp.Le.refl _)).symm, rfl⟩, Hp.Disj.union_right (dg.le s.keep (Hp.Le.refl _)) dE, Hp.union_le lg (l.trans s'.keep)⟩,
    s.keep.trans s'.keep, s'.os.trans s.os, s'.tape.trans s.tape, s'.output.trans s.output⟩, ⟨s'.keep, s'.os, s'.tape, s'.output⟩⟩

/-! ### owned blocks -/
/-- the block b holds just these cells -/
def own (b : Nat) (vs : List Value) (t : TypeId) : HProp := fun h => h = Hp.one b (.cells vs.toArray t (0, 0))

theorem St.block {E : Env} {b : Nat} {vs : List Value} {t : TypeId} {H : List HProp} {w : World} (s : St E (own b vs t :: H) w) : w.heap[b]? = some (.cells vs.toArray t (0, 0)) := by
  obtain ⟨h, ⟨h1, h2, rfl, _, _, rfl⟩, _, l⟩ := s.has
  exact ((Hp.le_union_left _ _).trans l) b _ (by simp [Hp.one])

theorem hpOf_push (w : World) (o : Obj) : hpOf { w with heap := w.heap.push o } = fun n => if n = w.heap.size then some o else hpOf w n := by
  funext n
  simp only [hpOf, Array.getElem?_push]

theorem St.alloc {E : Env} {H : List HProp} {w : World} (s : St E H w) (vs : List Value) (t : TypeId) :
    St E (own w.heap.size vs t :: H) { w with heap := w.heap.push (.cells vs.toArray t (0, 0)) } ∧ Ext w { w with heap := w.heap.push (.cells vs.toArray t (0, 0)) } := by
  have hn : hpOf w w.heap.size = none := by simp [hpOf]
  have hle : (hpOf w).Le (hpOf { w with heap := w.heap.push (.cells vs.toArray t (0, 0)) }) := by
    intro n o h
    rw [hpOf_push]
    by_cases hn' : n = w.heap.size
    · subst hn'; rw [hn] at h; cases h
    · simp [hn', h]
  obtain ⟨h, a, dE, l⟩ := s.has
  have dn : ∀ x : Hp, x.Le (hpOf w) → (Hp.one w.heap.size (.cells vs.toArray t (0, 0))).Disj x := fun x lx => Hp.one_disj (by
    cases hx : x w.heap.size with
    | none => rfl
    | some o => have := lx _ _ hx; rw [hn] at this; cases this)
  refine ⟨⟨⟨(Hp.one w.heap.size (.cells vs.toArray t (0, 0))).union h, ⟨_, h, rfl, a, dn h l, rfl⟩, Hp.Disj.union_right (dn _ s.keep).symm dE, Hp.union_le (Hp.one_le (by rw [hpOf_push]; simp)) (l.trans hle)⟩,
    s.keep.trans hle, s.os, s.tape, s.output⟩, ⟨hle, rfl, rfl, rfl⟩⟩

/-- an owned block is written anew -/
theorem St.write {E : Env} {b : Nat} {vs vs' : List Value} {t : TypeId} {H : List HProp} {w w' : World} (s : St E (own b vs t :: H) w)
    (hb : w'.heap[b]? = some (.cells vs'.toArray t (0, 0))) (ho : ∀ n, n ≠ b → w'.heap[n]? = w.heap[n]?) (hos : w'.os = w.os) (htape : w'.tape = w.tape) (hout : w'.output = w.output) :
    St E (own b vs' t :: H) w' := by
  obtain ⟨h, ⟨h1, h2, rfl, s2, d, rfl⟩, dE, l⟩ := s.has
  have h2b : h2 b = none := by
    rcases d b with e | e
    · simp [Hp.one] at e
    · exact e
  have hEb : E.hp b = none := by
    rcases dE b with e | e
    · exact e
    · simp [Hp.union, Hp.one] at e
  have keep : ∀ x : Hp, x b = none → x.Le (hpOf w) → x.Le (hpOf w') := fun x xb lx n o e => by
    by_cases hn : n = b
    · subst hn; rw [xb] at e; cases e
    · show w'.heap[n]? = _; rw [ho n hn]; exact lx n o e
  exact ⟨⟨(Hp.one b (.cells vs'.toArray t (0, 0))).union h2, ⟨_, h2, rfl, s2, Hp.one_disj h2b, rfl⟩,
    Hp.Disj.union_right (Hp.one_disj hEb).symm (dE.le (Hp.Le.refl _) (Hp.le_union_right d)), Hp.union_le (Hp.one_le hb) (keep h2 h2b ((Hp.le_union_right d).trans l))⟩,
    keep _ hEb s.keep, hos.trans s.os, htape.trans s.tape, hout.trans s.output⟩

/-! ### taking some out of a list -/
def pick : List Nat → List HProp → Option (List HProp × List HProp)
  | [], H => some ([], H)
  | i :: is, H => match H[i]? with
    | some A => (pick is (H.eraseIdx i)).map fun (c, f) => (A :: c, f)
    | none => none
theorem getElem_perm : ∀ {α : Type} {l : List α} {i : Nat} {x : α}, l[i]? = some x → (x :: l.eraseIdx i).Perm l
  | _, a :: l, 0, x, h => by simp at h; subst h; simp
  | _, a :: l, i + 1, x, h => by
    simp only [List.getElem?_cons_succ] at h
    simp only [List.eraseIdx_cons_succ]
    exact (List.Perm.swap a x _).trans ((getElem_perm h).cons a)
  | _, [], i, x, h => by simp at h
theorem pick_perm : ∀ {is : List Nat} {H c f : List HProp}, pick is H = some (c, f) → H.Perm (c ++ f)
  | [], H, c, f, h => by simp only [pick, Option.some.injEq, Prod.mk.injEq] at h; obtain ⟨rfl, rfl⟩ := h; exact List.Perm.refl _
  | i :: is, H, c, f, h => by
    simp only [pick] at h
    split at h
    · rename_i A hA
      obtain ⟨⟨c', f'⟩, hp, he⟩ := Option.map_eq_some_iff.1 h
      simp only [Prod.mk.injEq] at he
      obtain ⟨rfl, rfl⟩ := he
      exact (getElem_perm hA).symm.trans ((pick_perm hp).cons A)
    · cases h
theorem eraseIdx_set_same : ∀ (H : List HProp) (i : Nat) (A : HProp), (H.set i A).eraseIdx i = H.eraseIdx i
  | [], _, _ => rfl
  | _ :: _, 0, _ => rfl
  | _ :: H, i + 1, A => by simp only [List.set_cons_succ, List.eraseIdx_cons_succ, eraseIdx_set_same H i A]
theorem set_perm {H : List HProp} {i : Nat} {A A' : HProp} (h : H[i]? = some A) : (A' :: H.eraseIdx i).Perm (H.set i A') := by
  obtain ⟨hi, _⟩ := List.getElem?_eq_some_iff.1 h
  rw [← eraseIdx_set_same H i A']
  exact getElem_perm (by simp [hi])
theorem get_perm {H : List HProp} {i : Nat} {A : HProp} (h : H[i]? = some A) : H.Perm (A :: H.eraseIdx i) := (getElem_perm h).symm
theorem St.get {E : Env} {H : List HProp} {w : World} {i : Nat} {A : HProp} (s : St E H w) (h : H[i]? = some A) : St E (A :: H.eraseIdx i) w := s.perm (get_perm h)
theorem St.put {E : Env} {H : List HProp} {w : World} {i : Nat} {A A' : HProp} (h : H[i]? = some A) (s : St E (A' :: H.eraseIdx i) w) : St E (H.set i A') w := s.perm (set_perm h)

end Go.Sx
end
section
/- Frames, judgements on code, and the rules by which code is gone through. -/
namespace Go.Sx
open Go

/-! ### frames -/
abbrev Fr := Nat → Value
def upd (f : Fr) (i : Nat) (v : Value) : Fr := fun j => bif Nat.beq j i then v else f j
def fr0 : Fr := fun _ => undef
/-- the slots of W hold something -/
def mix (W : List Nat) (g f : Fr) : Fr := fun j => bif W.any (Nat.beq j) then g j else f j

def Rel (n : Nat) (f : Fr) (tmps : Array Value) : Prop := tmps.size = n ∧ ∀ i, tmps.getD i undef = f i

theorem Rel.upd {n : Nat} {f : Fr} {tmps : Array Value} (r : Rel n f tmps) {d : Nat} (hd : d < n) (v : Value) : Rel n (upd f d v) (tmps.setIfInBounds d v) := by
  refine ⟨by simp [r.1], fun i => ?_⟩
  unfold Sx.upd
  cases h : Nat.beq i d with
  | true =>
    have := Nat.eq_of_beq_eq_true h; subst this
    simp [r.1, hd]
  | false =>
    have hne : d ≠ i := fun e => by subst e; simp at h
    rw [cond_false, ← r.2 i]
    simp [Array.getElem?_setIfInBounds_ne hne]
theorem Rel.getElem? {n : Nat} {f : Fr} {tmps : Array Value} (r : Rel n f tmps) {d : Nat} (hd : d < n) : tmps[d]? = some (f d) := by
  rw [← r.2 d]
  have : d < tmps.size := by rw [r.1]; exact hd
  simp [this]
theorem Rel.congr {n : Nat} {f g : Fr} {tmps : Array Value} (r : Rel n f tmps) (h : f = g) : Rel n g tmps := h ▸ r

def ev (f : Fr) : Operand → Value
  | .tmp t => f t
  | .const v => v
  | .global g => .pointer (some ⟨g, 0, none⟩)
  | .func g => .func (.func g) #[] #[]
theorem Rel.eval {n : Nat} {f : Fr} {a : Act} (r : Rel n f a.tmps) : a.eval = ev f := by
  funext x; cases x with
  | tmp t => exact r.2 t
  | _ => rfl

def updO (f : Fr) : Option Nat → Value → Fr
  | some d, v => upd f d v
  | none, _ => f
def okD (n : Nat) : Option Nat → Bool
  | some d => Nat.blt d n
  | none => true
theorem Rel.put {n : Nat} {f : Fr} {a : Act} (r : Rel n f a.tmps) {d : Option Nat} (hd : okD n d = true) (v : Value) : Rel n (updO f d v) (a.put d v).tmps := by
  cases d with
  | none => exact r
  | some d => exact r.upd (by simpa [okD, Nat.blt_eq] using hd) v
theorem put_defers (a : Act) (d : Option Nat) (v : Value) : (a.put d v).defers = a.defers := by cases d <;> rfl

/-! ### exits, posts -/
inductive Ex where
  | norm
  | exit (id : Nat)
  | ret
abbrev Kont := Ex → Fr → List HProp → Prop

def Ends (n : Nat) (E : Env) (K : Fr → List HProp → Prop) (a : Act) (w : World) : Prop := a.defers = [] ∧ ∃ f H, Rel n f a.tmps ∧ K f H ∧ St E H w
def Post (n : Nat) (E : Env) (K : Kont) : Exit → Act → World → Prop
  | .normal, a, w => Ends n E (K .norm) a w
  | .exit id, a, w => Ends n E (K (.exit id)) a w
  | .ret, a, w => Ends n E (K .ret) a w
  | _, _, _ => False
theorem Ends.mono {n : Nat} {E : Env} {K K' : Fr → List HProp → Prop} {a : Act} {w : World} (h : Ends n E K a w) (k : ∀ f H, K f H → K' f H) : Ends n E K' a w :=
  let ⟨d, f, H, r, kk, s⟩ := h; ⟨d, f, H, r, k f H kk, s⟩

/-- code, from a frame and what is owned -/
def Body (P : Program) (n : Nat) (c : Code) (f : Fr) (E : Env) (H : List HProp) (K : Kont) : Prop :=
  ∀ w a, Rel n f a.tmps → a.defers = [] → St E H w → c.wp P (Post n E K) a w

section
variable {P : Program} {n : Nat} {f : Fr} {E : Env} {H : List HProp} {K : Kont}

theorem Body.mono {c : Code} {K' : Kont} (h : Body P n c f E H K) (k : ∀ e f H, K e f H → K' e f H) : Body P n c f E H K' := fun w a r d s =>
  wp_mono (h w a r d s) fun e a w q => by cases e <;> first | exact Ends.mono q (k _) | exact q

theorem Body.skip (h : K .norm f H) : Body P n .skip f E H K := fun _ _ r d s => wp_skip ⟨d, f, H, r, h, s⟩
theorem Body.label {l : Nat} (h : K .norm f H) : Body P n (.label l) f E H K := fun _ _ r d s => wp_label ⟨d, f, H, r, h, s⟩
theorem Body.ret (h : K .ret f H) : Body P n .ret f E H K := fun _ _ r d s => wp_ret ⟨d, f, H, r, h, s⟩
theorem Body.exit {id : Nat} (h : K (.exit id) f H) : Body P n (.exit id) f E H K := fun _ _ r d s => wp_exit ⟨d, f, H, r, h, s⟩

def Then (P : Program) (n : Nat) (y : Code) (E : Env) (K : Kont) : Kont
  | .norm, f, H => Body P n y f E H K
  | e, f, H => K e f H
theorem Body.seq {x y : Code} (h : Body P n x f E H (Then P n y E K)) : Body P n (.seq x y) f E H K := fun w a r d s =>
  wp_seq (wp_mono (h w a r d s) fun e a w q => by
    cases e with
    | normal => obtain ⟨d, f, H, r, k, s⟩ := q; exact k w a r d s
    | exit id => exact q
    | ret => exact q
    | goto l => exact q
    | panic c => exact q
    | outgrown => exact q)
theorem Then.next {y : Code} (h : Body P n y f E H K) : Then P n y E K .norm f H := h
theorem Then.exit {y : Code} {id : Nat} (h : K (.exit id) f H) : Then P n y E K (.exit id) f H := h
theorem Then.ret {y : Code} (h : K .ret f H) : Then P n y E K .ret f H := h

def Blk (id : Nat) (K : Kont) : Kont
  | .exit j, f, H => if j = id then K .norm f H else K (.exit j) f H
  | e, f, H => K e f H
theorem Body.block {id : Nat} {c : Code} (h : Body P n c f E H (Blk id K)) : Body P n (.block id c) f E H K := fun w a r d s =>
  wp_block (wp_mono (h w a r d s) fun e a w q => by
    cases e with
    | exit j =>
      obtain ⟨d, f, H, r, k, s⟩ := q
      simp only [Blk] at k
      simp only [Exit.inBlock]
      split
      · rename_i hj; rw [if_pos hj] at k; exact ⟨d, f, H, r, k, s⟩
      · rename_i hj; rw [if_neg hj] at k; exact ⟨d, f, H, r, k, s⟩
    | normal => exact q
    | ret => exact q
    | goto l => exact q
    | panic c => exact q
    | outgrown => exact q)
theorem Blk.norm {id : Nat} (h : K .norm f H) : Blk id K .norm f H := h
theorem Blk.ret {id : Nat} (h : K .ret f H) : Blk id K .ret f H := h
theorem Blk.here {id : Nat} (h : K .norm f H) : Blk id K (.exit id) f H := by simp only [Blk, if_pos]; exact h
theorem Blk.past {id j : Nat} (hj : Nat.beq j id = false) (h : K (.exit j) f H) : Blk id K (.exit j) f H := by
  simp only [Blk]; rw [if_neg (fun e => by subst e; simp at hj)]; exact h

theorem Body.scope {c : Code} (h : Body P n c f E H K) : Body P n (.scope c) f E H K := fun w a r d s =>
  wp_scope_straight (wp_mono (h w a r d s) fun e a w q => by cases e <;> exact q)

theorem Body.cond {c : Operand} {x y : Code} {t : Bool} (hc : ev f c = .bool t) (h1 : t = true → Body P n x f E H K) (h2 : t = false → Body P n y f E H K) : Body P n (.cond c x y) f E H K :=
  fun w a r d s => wp_cond_split (t := t) (by rw [r.eval]; exact hc) (fun e => h1 e w a r d s) (fun e => h2 e w a r d s)
theorem Body.condT {c : Operand} {x y : Code} (hc : ev f c = .bool true) (h1 : Body P n x f E H K) : Body P n (.cond c x y) f E H K := Body.cond hc (fun _ => h1) (fun e => by cases e)
theorem Body.condF {c : Operand} {x y : Code} (hc : ev f c = .bool false) (h1 : Body P n y f E H K) : Body P n (.cond c x y) f E H K := Body.cond hc (fun e => by cases e) (fun _ => h1)
/-- a test of a proposition -/
theorem Body.condP {c : Operand} {x y : Code} {p : Prop} {_ : Decidable p} (hc : ev f c = .bool (decide p)) (h1 : p → Body P n x f E H K) (h2 : ¬ p → Body P n y f E H K) : Body P n (.cond c x y) f E H K :=
  Body.cond hc (fun e => h1 (of_decide_eq_true e)) (fun e => h2 (of_decide_eq_false e))

/-- a loop: what holds at its head, of some ghost; a number that falls -/
def Round {γ : Type} (I : γ → Fr → List HProp → Prop) (μ : γ → Nat) (g : γ) (K : Kont) : Kont
  | .norm, f, H => ∃ g', I g' f H ∧ μ g' < μ g
  | e, f, H => K e f H
theorem Body.loop {c : Code} {γ : Type} (I : γ → Fr → List HProp → Prop) (μ : γ → Nat) (g0 : γ) (h0 : I g0 f H)
    (round : ∀ g f H, I g f H → Body P n c f E H (Round I μ g K)) : Body P n (.loop c) f E H K := fun w a r d s => by
  have key : ∀ m, ∀ g f H w a, μ g = m → I g f H → Rel n f a.tmps → a.defers = [] → St E H w → ∀ (b : Frame) (k : List Item) (cs : List Frame),
      ∃ e a' w', Post n E K e a' w' ∧ Arrives P (lone (b.at a (.code c :: .inLoop c :: k)) cs w) b k cs e a' w' := by
    intro m
    induction m using Nat.strongRecOn with
    | _ m ih =>
      intro g f H w a hm hI r d s b k cs
      obtain ⟨e, a₁, w₁, hq, harr⟩ := round g f H hI w a r d s b (.inLoop c :: k) cs
      cases e with
      | normal =>
        obtain ⟨d', f', H', r', ⟨g', hI', hlt⟩, s'⟩ := hq
        obtain ⟨e₂, a₂, w₂, hq₂, harr₂⟩ := ih (μ g') (hm ▸ hlt) g' f' H' w₁ a₁ rfl hI' r' d' s' b k cs
        exact ⟨e₂, a₂, w₂, hq₂, .of_steps (Steps.trans harr (.one step_inLoop)) harr₂⟩
      | exit id => exact ⟨.exit id, a₁, w₁, hq, .pass (x := .inLoop c) rfl (fun _ _ => .inl (by simp)) harr⟩
      | ret => exact ⟨.ret, a₁, w₁, hq, .pass (x := .inLoop c) rfl (fun _ _ => .inl (by simp)) harr⟩
      | goto l => exact hq.elim
      | panic ch => exact hq.elim
      | outgrown => exact hq.elim
  intro b k cs
  obtain ⟨e, a', w', hq, harr⟩ := key _ g0 f H w a rfl h0 r d s b k cs
  exact ⟨e, a', w', hq, .of_steps (.one step_loop) harr⟩
theorem Round.go {γ : Type} {I : γ → Fr → List HProp → Prop} {μ : γ → Nat} {g : γ} (g' : γ) (h : I g' f H) (hm : μ g' < μ g) : Round I μ g K .norm f H := ⟨g', h, hm⟩
theorem Round.exit {γ : Type} {I : γ → Fr → List HProp → Prop} {μ : γ → Nat} {g : γ} {id : Nat} (h : K (.exit id) f H) : Round I μ g K (.exit id) f H := h
theorem Round.ret {γ : Type} {I : γ → Fr → List HProp → Prop} {μ : γ → Nat} {g : γ} (h : K .ret f H) : Round I μ g K .ret f H := h

/-- a change of what is owned, in words -/
theorem Body.conseq {c : Code} {H' : List HProp} (hs : ∀ w, St E H w → St E H' w) (h : Body P n c f E H' K) : Body P n c f E H K := fun w a r d s => h w a r d (hs w s)
end

/-! ### calls -/
def Does (P : Program) (g : FuncId) (args : Array Value) (E : Env) (H : List HProp) (Q : Value → List HProp → Prop) : Prop :=
  ∀ w, St E H w → Calls P g args w fun e w' => ∃ v H', e = .returned v ∧ Q v H' ∧ St E H' w'
theorem Does.mono {P : Program} {g : FuncId} {args : Array Value} {E : Env} {H : List HProp} {Q Q' : Value → List HProp → Prop} (h : Does P g args E H Q) (k : ∀ v H', Q v H' → Q' v H') : Does P g args E H Q' :=
  fun w s => (h w s).mono fun _ _ ⟨v, H', e, q, s'⟩ => ⟨v, H', e, k v H' q, s'⟩

/-- what is read out of memory -/
def Loads (P : Program) (T : TypeId) (addr : Value) (v : Value) (E : Env) (H : List HProp) : Prop :=
  ∃ a, addr = .pointer (some a) ∧ ∀ w, St E H w → (loadVar T a).run P w = .ok v w

def ResK (P : Program) (f : Fr) (E : Env) (H : List HProp) : List ResultVar → (List Value → Prop) → Prop
  | [], K => K []
  | .tmp t :: rs, K => ResK P f E H rs fun vs => K (f t :: vs)
  | .cell a T :: rs, K => ∃ v, Loads P T (f a) v E H ∧ ResK P f E H rs fun vs => K (v :: vs)
def mkRes : List Value → Value
  | [v] => v
  | vs => .tuple vs.toArray

def resSem (tmps : Array Value) : ResultVar → Sem Value
  | .tmp t => pure (tmps.getD t undef)
  | .cell a t => do loadVar t (← asAddr (tmps.getD a undef))

theorem run_mapM_res {P : Program} {n : Nat} {f : Fr} {E : Env} {H : List HProp} {tmps : Array Value} {w : World} (r : Rel n f tmps) (s : St E H w) :
    ∀ (rs : List ResultVar) (K : List Value → Prop), ResK P f E H rs K → ∃ vs : List Value, (rs.mapM (resSem tmps)).run P w = .ok vs w ∧ K vs
  | [], K, h => ⟨[], rfl, h⟩
  | .tmp t :: rs, K, h => by
    obtain ⟨vs, h1, h2⟩ := run_mapM_res r s rs _ h
    refine ⟨f t :: vs, ?_, h2⟩
    have e := r.2 t
    rw [List.mapM_cons, Sem.run_bind]
    simp only [resSem, Sem.run_pure, Result.andThen_ok, Sem.run_bind, h1, e]
  | .cell a T :: rs, K, h => by
    obtain ⟨v, ⟨ad, ha, hl⟩, hr⟩ := h
    obtain ⟨vs, h1, h2⟩ := run_mapM_res r s rs _ hr
    refine ⟨v :: vs, ?_, h2⟩
    have e := r.2 a
    rw [List.mapM_cons, Sem.run_bind]
    simp only [resSem, Sem.run_pure, Sem.run_bind, e, ha, asAddr, Result.andThen_ok, hl w s, h1]

/-- some of what is owned is handed back -/
theorem pk {E : Env} {H c d : List HProp} (is : List Nat) (h : pick is H = some (c, d)) : ∀ w, St E H w → St E c w := fun _ s => (s.perm (pick_perm h)).drop_tail
def argsFr (args : List Value) : Fr := fun i => args.getD i undef

theorem Rel.args {args : List Value} {m : Nat} (h : args.length ≤ m) : Rel m (argsFr args) (args.toArray ++ Array.replicate (m - args.length) undef) := by
  refine ⟨by simp; omega, fun i => ?_⟩
  unfold argsFr
  by_cases hi : i < args.length
  · simp [Array.getD, hi, show i < args.length + (m - args.length) by omega]
  · simp only [Array.getD, List.getD]
    rw [List.getElem?_eq_none (by omega)]
    split
    · rename_i h2
      simp only [Array.size_append, List.size_toArray, Array.size_replicate] at h2
      simp [Array.getElem_append, hi]
    · rfl

/-- into a function -/
theorem Does.enter {P : Program} {g : FuncId} {fn : Func} {c : Code} {args : List Value} {E : Env} {H : List HProp} {Q : Value → List HProp → Prop} (n : Nat) (rs : List ResultVar)
    (hf : P.funcs[g]? = some fn) (hb : fn.body = some c) (hn : fn.ntmps = n) (hr : fn.results = rs.toArray) (ha : args.length ≤ n)
    (h : Body P n c (argsFr args) E H fun e f' H' => (e = .norm ∨ e = .ret) ∧ ResK P f' E H' rs fun vs => ∃ c, (∀ w, St E H' w → St E c w) ∧ Q (mkRes vs) c) :
    Does P g args.toArray E H Q := fun w s => by
  refine calls_of_wp hf hb (wp_mono (h w { tmps := args.toArray ++ Array.replicate (fn.ntmps - args.toArray.size) undef, defers := [] } (by
    exact hn ▸ Rel.args (args := args) (m := n) ha) rfl s) ?_)
  have fin : ∀ e a w', (e = Ex.norm ∨ e = Ex.ret) → Ends n E (fun f' H' => (e = .norm ∨ e = .ret) ∧ ResK P f' E H' rs fun vs => ∃ c, (∀ w, St E H' w → St E c w) ∧ Q (mkRes vs) c) a w' →
      a.defers = [] ∧ ∃ v, (results fn a.tmps).run P w' = .ok v w' ∧ ∃ v' H', Ending.returned v = .returned v' ∧ Q v' H' ∧ St E H' w' := by
    rintro e a w' _ ⟨hd, f', H', r, ⟨_, hk⟩, s'⟩
    obtain ⟨vs, h1, c, hp, q⟩ := run_mapM_res r s' rs _ hk
    refine ⟨hd, mkRes vs, ?_, _, c, rfl, q, hp _ s'⟩
    have hm : results fn a.tmps = (do let vs ← rs.toArray.mapM (resSem a.tmps); pure (if h : vs.size = 1 then vs[0] else .tuple vs)) := by
      unfold results; rw [hr]; congr 1
    rw [hm, List.mapM_toArray, Sem.run_bind, Sem.run_map, h1]
    simp only [Result.andThen_ok, Sem.run_pure]
    match vs with
    | [] => rfl
    | [v] => rfl
    | v :: u :: vs => simp [mkRes]
  intro e a w' q
  cases e with
  | normal => exact fin .norm a w' (.inl rfl) q
  | ret => exact fin .ret a w' (.inr rfl) q
  | exit id => obtain ⟨_, _, _, _, ⟨h, _⟩, _⟩ := q; rcases h with h | h <;> cases h
  | goto l => exact q.elim
  | panic c => exact q.elim
  | outgrown => exact q.elim
end Go.Sx
end
section
/- Judgements on single operations, on regions in the text's order, and on regions whose order is open. -/
namespace Go.Sx
open Go

/-- what an operation comes to: a value and a world; a call by what it returns -/
def OpR (P : Program) (o : Oper) (a : Act) (w : World) (K : Value → World → Prop) : Prop :=
  match (execOp a.eval o).run P w with
  | .ok (.value v) w' => K v w'
  | .ok .skip w' => K undef w'
  | .ok (.enter g args) w' => Calls P g args w' fun e w'' => ∃ v, e = .returned v ∧ K v w''
  | _ => False
theorem OpR.mono {P : Program} {o : Oper} {a : Act} {w : World} {K K' : Value → World → Prop} (h : OpR P o a w K) (k : ∀ v w, K v w → K' v w) : OpR P o a w K' := by
  unfold OpR at *
  split at h
  · exact k _ _ h
  · exact k _ _ h
  · exact h.mono fun e w ⟨v, e1, q⟩ => ⟨v, e1, k _ _ q⟩
  · exact h.elim
theorem OpR.wp {P : Program} {o : Oper} {a : Act} {w : World} {K : Value → World → Prop} {next : Act → World → Prop} {Q : Exit → Act → World → Prop} (h : OpR P o a w K) (k : ∀ v w', K v w' → next (a.put o.dst v) w') : o.wp P a w next Q := by
  unfold OpR at h
  unfold Oper.wp
  generalize (execOp a.eval o).run P w = r at *
  cases r with
  | halt x w' => cases h
  | ok x w' =>
    cases x <;> simp only [Oper.upon] at * <;> first
      | exact k _ _ h
      | (refine h.mono ?_; rintro e w'' ⟨v, rfl, q⟩; exact k _ _ q)
      | cases h

def Stp (q : Bool) (P : Program) (n : Nat) (f : Fr) (E : Env) (H : List HProp) (o : Oper) (K : Value → List HProp → Prop) : Prop :=
  ∀ (w : World) (a : Act), Rel n f a.tmps → St E H w → OpR P o a w fun v w' => (q = true → Ext w w') ∧ ∃ H', K v H' ∧ St E H' w'
def Det (P : Program) (n : Nat) (f : Fr) (E : Env) (H : List HProp) (o : Oper) (v : Value) : Prop :=
  ∀ (w : World) (a : Act), Rel n f a.tmps → St E H w → (execOp a.eval o).run P w = .ok (.value v) w
/-- the same, in whatever world, if there is one in which the state holds -/
def Dtu (P : Program) (n : Nat) (f : Fr) (E : Env) (H : List HProp) (o : Oper) (v : Value) : Prop :=
  ∀ (w0 : World), St E H w0 → ∀ (w : World) (a : Act), Rel n f a.tmps → (execOp a.eval o).run P w = .ok (.value v) w
section
variable {P : Program} {n : Nat} {f : Fr} {E : Env} {H : List HProp}
theorem Dtu.det {o : Oper} {v : Value} (h : Dtu P n f E H o v) : Det P n f E H o v := fun w a r s => h w s w a r
theorem Det.stp {o : Oper} {v : Value} {K : Value → List HProp → Prop} (h : Det P n f E H o v) (k : K v H) : Stp true P n f E H o K := fun w a r s => by
  unfold OpR; rw [h w a r s]; exact ⟨fun _ => Ext.refl _, H, k, s⟩
theorem Stp.mono {q : Bool} {o : Oper} {K K' : Value → List HProp → Prop} (h : Stp q P n f E H o K) (k : ∀ v H', K v H' → K' v H') : Stp q P n f E H o K' := fun w a r s =>
  (h w a r s).mono fun _ _ ⟨x, H', kk, s'⟩ => ⟨x, H', k _ _ kk, s'⟩
end

/-! ### a region in the text's order -/
def Ops (P : Program) (n : Nat) (all : Array Oper) (l : List Oper) (f : Fr) (E : Env) (H : List HProp) (K : Kont) : Prop :=
  ∀ w a, Rel n f a.tmps → a.defers = [] → St E H w → wpList P all (Post n E K) l a w

/-- the Bool that a guard looks at -/
def guardSlot (all : Array Oper) (j : Nat) : Option Nat := (all[j]?).bind (·.dst)
section
variable {P : Program} {n : Nat} {f : Fr} {E : Env} {H : List HProp} {K : Kont} {all : Array Oper} {rest : List Oper}
theorem Ops.nil (h : K .norm f H) : Ops P n all [] f E H K := fun _ _ r d s => ⟨d, f, H, r, h, s⟩
theorem wanted_none {o : Oper} (h : o.guard = none) (y : Nat → Option Bool) : Region.wanted o y = true := by simp [Region.wanted, h]
theorem yielded_rel {a : Act} (r : Rel n f a.tmps) {j d : Nat} {b : Bool} (hj : guardSlot all j = some d) (hd : Nat.blt d n = true) (hb : f d = .bool b) : yielded all a.tmps j = some b := by
  unfold yielded
  unfold guardSlot at hj
  rw [hj, Option.bind_some, r.getElem? (by simpa [Nat.blt_eq] using hd), hb]
/-- is it this Bool? -/
def isB (v : Value) (b : Bool) : Bool := match v with
  | .bool c => c == b
  | _ => false
theorem wanted_rel {a : Act} {o : Oper} (r : Rel n f a.tmps) {j d : Nat} {b : Bool} (hg : o.guard = some (j, b)) (hj : guardSlot all j = some d) (hd : Nat.blt d n = true) (hne : isB (f d) b = false) : Region.wanted o (yielded all a.tmps) = false := by
  simp only [Region.wanted, hg]
  unfold yielded
  unfold guardSlot at hj
  rw [hj, Option.bind_some, r.getElem? (by simpa [Nat.blt_eq] using hd)]
  revert hne
  cases f d <;> simp [isB]
theorem Ops.stp {q : Bool} {o : Oper} (hg : o.guard = none) (hd : okD n o.dst = true) (h : Stp q P n f E H o fun v H' => Ops P n all rest (updO f o.dst v) E H' K) :
    Ops P n all (o :: rest) f E H K := fun w a r d s => by
  unfold wpList
  rw [if_pos (wanted_none hg _)]
  refine .inl ((h w a r s).wp ?_)
  rintro v w' ⟨_, H', k, s'⟩
  exact k w' _ (r.put hd v) ((put_defers _ _ _).trans d) s'
theorem Ops.gyes {q : Bool} {o : Oper} {j d : Nat} {b : Bool} (hg : o.guard = some (j, b)) (hj : guardSlot all j = some d) (hdn : Nat.blt d n = true) (hb : f d = .bool b)
    (hd : okD n o.dst = true) (h : Stp q P n f E H o fun v H' => Ops P n all rest (updO f o.dst v) E H' K) : Ops P n all (o :: rest) f E H K := fun w a r d s => by
  unfold wpList
  have e : Region.wanted o (yielded all a.tmps) = true := by simp only [Region.wanted, hg, yielded_rel r hj hdn hb]; simp
  rw [if_pos e]
  refine .inl ((h w a r s).wp ?_)
  rintro v w' ⟨_, H', k, s'⟩
  exact k w' _ (r.put hd v) ((put_defers _ _ _).trans d) s'
theorem Ops.gno {o : Oper} {j d : Nat} {b : Bool} (hg : o.guard = some (j, b)) (hj : guardSlot all j = some d) (hdn : Nat.blt d n = true) (hne : isB (f d) b = false)
    (hd : okD n o.dst = true) (h : Ops P n all rest (updO f o.dst undef) E H K) : Ops P n all (o :: rest) f E H K := fun w a r d s => by
  unfold wpList
  have e : Region.wanted o (yielded all a.tmps) = false := wanted_rel r hg hj hdn hne
  rw [if_neg (by rw [e]; simp)]
  exact h w _ (r.put hd undef) ((put_defers _ _ _).trans d) s
theorem Body.region {id : Nat} {l : List Oper} (h : Ops P n l.toArray l f E H K) : Body P n (.region id l.toArray false) f E H K := fun w a r d s => wp_region_lit (h w a r d s)
/-- a test that a region's guards ask is decided ahead -/
theorem Ops.split {b : Bool} {l : List Oper} (h1 : b = true → Ops P n all l f E H K) (h2 : b = false → Ops P n all l f E H K) : Ops P n all l f E H K := by
  cases b
  · exact h2 rfl
  · exact h1 rfl
end

/-! ### a region whose order is open -/
def Closed (ops : Array Oper) (listed : Array Bool) : Prop :=
  ∀ j oj, ops[j]? = some oj → listed.getD j false = true → ∀ e ∈ oj.after, Region.binds .any e = true → listed.getD e.on false = true
/-- j waits for i, on whatever road -/
def reaches (ops : Array Oper) : Nat → Nat → Nat → Bool
  | 0, _, _ => false
  | k + 1, j, i => match ops[j]? with
    | some o => o.after.any fun e => Region.binds .any e && (e.on == i || reaches ops k e.on i)
    | none => false
theorem reaches_listed {ops : Array Oper} {listed : Array Bool} (hc : Closed ops listed) {i : Nat} : ∀ (k j : Nat) (oj : Oper), ops[j]? = some oj → reaches ops k j i = true →
    (∀ e ∈ oj.after, Region.binds .any e = true → listed.getD e.on false = true) → listed.getD i false = true
  | 0, _, _, _, h, _ => by cases h
  | k + 1, j, oj, hj, h, hall => by
    simp only [reaches, hj] at h
    obtain ⟨e, he, hb⟩ := Array.any_eq_true'.1 h
    simp only [Bool.and_eq_true, Bool.or_eq_true, beq_iff_eq] at hb
    have hl := hall e he hb.1
    rcases hb.2 with hi | hr
    · rw [← hi]; exact hl
    · cases ho : ops[e.on]? with
      | none => cases k with
        | zero => cases hr
        | succ k => simp only [reaches, ho] at hr; cases hr
      | some oe => exact reaches_listed hc k e.on oe ho hr fun e' he' hb' => hc e.on oe ho hl e' he' hb'
/-- may an operation's value hang on memory? -/
def memB (o : Oper) : Bool := match o.op with
  | .move _ | .assign _ | .pick .. | .build .. | .fieldAddr .. | .field .. | .indexAddr .. | .index .. | .unOp .. | .binOp .. | .extract .. | .slice .. | .makeFunc .. | .makeInterface .. | .nilCheck _ => false
  | .call { callee := .builtin .len, .. } | .call { callee := .builtin .cap, .. } | .call { callee := .builtin .max, .. } | .call { callee := .builtin .min, .. } => false
  | _ => true
def memI (ops : Array Oper) (i : Nat) : Bool := match ops[i]? with
  | some o => memB o
  | none => false
/-- whatever comes up and looks at memory is behind j or ahead of it -/
def barB (ops : Array Oper) (j : Nat) : Bool := (List.range ops.size).all fun i => i == j || !memI ops i || reaches ops ops.size j i || reaches ops ops.size i j
def Bar (ops : Array Oper) (j : Nat) : Prop := ∀ listed, Closed ops listed → j ∈ Region.ready .any ops listed → ∀ i ∈ Region.ready .any ops listed, memI ops i = true → i = j
theorem getD_tf {listed : Array Bool} {i : Nat} (h : listed.getD i true = false) (h' : listed.getD i false = true) : False := by
  rcases Nat.lt_or_ge i listed.size with x | x
  · simp [x] at h h'; rw [h] at h'; cases h'
  · simp [Array.getElem?_eq_none x] at h
theorem bar_of {ops : Array Oper} {j : Nat} (h : barB ops j = true) : Bar ops j := fun listed hc hj i hi hm => by
  obtain ⟨hju, oj, hoj, hjall⟩ := mem_ready.1 hj
  obtain ⟨hiu, oi, hoi, hiall⟩ := mem_ready.1 hi
  have h1 := List.all_eq_true.1 h i (List.mem_range.2 (Array.getElem?_eq_some_iff.1 hoi).1)
  simp only [Bool.or_eq_true, beq_iff_eq, hm, Bool.not_true, Bool.false_eq_true, or_false] at h1
  rcases h1 with (h1 | h1) | h1
  · exact h1
  · exact (getD_tf hiu (reaches_listed hc _ j oj hoj h1 hjall)).elim
  · exact (getD_tf hju (reaches_listed hc _ i oi hoi h1 hiall)).elim
theorem Closed.set {ops : Array Oper} {listed : Array Bool} (hc : Closed ops listed) {i : Nat} (hi : i ∈ Region.ready .any ops listed) : Closed ops (listed.setIfInBounds i true) := fun j oj hj hl e he hb => by
  obtain ⟨_, oi, hoi, hall⟩ := mem_ready.1 hi
  by_cases hij : i = j
  · subst hij
    obtain rfl : oj = oi := Option.some.inj (hj.symm.trans hoi)
    exact getD_set_true (hall e he hb)
  · rw [getD_set_ne false hij] at hl
    exact getD_set_true (hc j oj hj hl e he hb)

/-- operation number i comes up -/
def OpI (P : Program) (ops : Array Oper) (i : Nat) (a : Act) (w : World) (K : Act → World → Prop) : Prop :=
  match ops[i]? with
  | none => K a w
  | some o => if Region.wanted o (yielded ops a.tmps) then OpR P o a w fun v w' => K (a.put o.dst v) w' else K (a.put o.dst undef) w
theorem OpI.mono {P : Program} {ops : Array Oper} {i : Nat} {a : Act} {w : World} {K K' : Act → World → Prop} (h : OpI P ops i a w K) (k : ∀ a w, K a w → K' a w) : OpI P ops i a w K' := by
  unfold OpI at *
  split
  · rename_i ho; simp only [ho] at h; exact k _ _ h
  · rename_i o ho
    simp only [ho] at h
    split
    · rename_i hw; rw [if_pos hw] at h; exact h.mono fun _ _ q => k _ _ q
    · rename_i hw; rw [if_neg hw] at h; exact k _ _ h
theorem OpI.wpOp {P : Program} {ops : Array Oper} {i : Nat} {a : Act} {w : World} {K : Act → World → Prop} {Q : Exit → Act → World → Prop} (h : OpI P ops i a w K) : wpOp P ops Q i K a w := by
  unfold OpI at h
  unfold Go.wpOp
  split
  · rename_i ho; simp only [ho] at h; exact h
  · rename_i o ho
    simp only [ho] at h
    split
    · rename_i hw; rw [if_pos hw] at h; exact .inl (h.wp fun _ _ q => q)
    · rename_i hw; rw [if_neg hw] at h; exact h

def AnyX (P : Program) (ops : Array Oper) (Q : Exit → Act → World → Prop) : Nat → Array Bool → Act → World → Prop
  | 0, listed, a, w => Region.ready .any ops listed = [] ∧ Q .normal a w
  | k + 1, listed, a, w => (Region.ready .any ops listed = [] → Q .normal a w) ∧
    ∀ i ∈ Region.ready .any ops listed, OpI P ops i a w fun a' w' => (Ext w w' ∨ Bar ops i) ∧ AnyX P ops Q k (listed.setIfInBounds i true) a' w'
theorem AnyX.wpAny {P : Program} {ops : Array Oper} {Q : Exit → Act → World → Prop} : ∀ (k : Nat) (listed : Array Bool) (a : Act) (w : World), AnyX P ops Q k listed a w → Go.wpAny P .any ops Q k listed a w
  | 0, _, _, _, h => h
  | k + 1, _, _, _, h => ⟨h.1, fun i hi => ((h.2 i hi).mono fun _ _ ⟨_, q⟩ => AnyX.wpAny k _ _ _ q).wpOp⟩

/-- in this frame, in this world and in each that has grown from it, o yields v and nothing else -/
def YieldsX (P : Program) (ops : Array Oper) (o : Oper) (v : Value) (a : Act) (w : World) : Prop :=
  (Region.wanted o (yielded ops a.tmps) = true ∧ ∀ w', Ext w w' → (execOp a.eval o).run P w' = .ok (.value v) w') ∨ (Region.wanted o (yielded ops a.tmps) = false ∧ v = undef)
theorem YieldsX.of_same {P : Program} {ops : Array Oper} {o : Oper} {v : Value} {a a' : Act} {w w' : World} (hy : YieldsX P ops o v a w) (he : execOp a'.eval o = execOp a.eval o)
    (hw : Region.wanted o (yielded ops a'.tmps) = Region.wanted o (yielded ops a.tmps)) (x : Ext w w') : YieldsX P ops o v a' w' := by
  unfold YieldsX at *
  rw [he, hw]
  exact hy.imp (fun ⟨h1, h2⟩ => ⟨h1, fun w'' x' => h2 w'' (x.trans x')⟩) id
theorem YieldsX.opI {P : Program} {ops : Array Oper} {i : Nat} {o : Oper} {v : Value} {a : Act} {w : World} {K : Act → World → Prop} (hi : ops[i]? = some o) (hy : YieldsX P ops o v a w) (h : K (a.put o.dst v) w) : OpI P ops i a w K := by
  unfold OpI
  simp only [hi]
  rcases hy with ⟨hw, hv⟩ | ⟨hw, rfl⟩
  · rw [if_pos hw]; unfold OpR; rw [hv w (Ext.refl w)]; exact h
  · rw [if_neg (by rw [hw]; simp)]; exact h

theorem OpI.put {P : Program} {ops : Array Oper} {j : Nat} {oi oj : Oper} {v : Value} (hj : ops[j]? = some oj) (hap : oi.apart ops oj = true)
    (hsi : ∀ cs b, oi.op ≠ .select cs b) (hsj : ∀ cs b, oj.op ≠ .select cs b) {K : Act → World → Prop} {a : Act} {w : World}
    (hy : YieldsX P ops oi v a w) (h : OpI P ops j (a.put oi.dst v) w fun a' w' => Ext w w' ∧ K a' w') :
    OpI P ops j a w fun a' w' => Ext w w' ∧ YieldsX P ops oi v a' w' ∧ K (a'.put oi.dst v) w' := by
  obtain ⟨h1, h2, h3⟩ := Oper.apart_spec hap
  have keep : ∀ (u : Value) (w' : World), Ext w w' → YieldsX P ops oi v (a.put oj.dst u) w' := fun u w' x =>
    hy.of_same (execOp_put oi hsi a oj.dst u h3) (wanted_put oi a oj.dst u h3) x
  unfold OpI at *
  simp only [hj] at *
  rw [wanted_put oj a oi.dst v h1] at h
  split
  · rename_i hw
    rw [if_pos hw] at h
    unfold OpR at *
    rw [execOp_put oj hsj a oi.dst v h1] at h
    generalize (execOp a.eval oj).run P w = r at *
    cases r with
    | halt x w' => exact h
    | ok n w' =>
      cases n <;> first
        | exact h
        | exact ⟨h.1, keep _ _ h.1, by rw [← Act.put_comm a v _ h2]; exact h.2⟩
        | exact Calls.mono h fun e w'' ⟨u, e1, x, k⟩ => ⟨u, e1, x, keep _ _ x, by rw [← Act.put_comm a v u h2]; exact k⟩
  · rename_i hw
    rw [if_neg hw] at h
    exact ⟨h.1, keep _ _ h.1, by rw [← Act.put_comm a v undef h2]; exact h.2⟩

theorem AnyX.first {P : Program} {ops : Array Oper} {Q : Exit → Act → World → Prop} {i : Nat} {oi : Oper} {v : Value} (hi : ops[i]? = some oi) (hsel : ∀ (j : Nat) (o : Oper) cs b, ops[j]? = some o → o.op ≠ .select cs b) :
    ∀ (fuel : Nat) (listed : Array Bool) (a : Act) (w : World), Closed ops listed →
      (∀ j oj, ops[j]? = some oj → j ≠ i → listed.getD j true = false → (∀ e ∈ oj.after, Region.binds .any e = true → e.on ≠ i) → oi.apart ops oj = true) →
      i ∈ Region.ready .any ops listed → memB oi = true → YieldsX P ops oi v a w →
      AnyX P ops Q fuel (listed.setIfInBounds i true) (a.put oi.dst v) w → AnyX P ops Q (fuel + 1) listed a w := by
  intro fuel
  induction fuel with
  | zero =>
    intro listed a w _ _ hr _ hy H
    refine ⟨fun h => (by rw [h] at hr; cases hr), fun j hj => ?_⟩
    by_cases hji : j = i
    · subst hji; exact hy.opI hi ⟨.inl (Ext.refl w), H⟩
    · have := ready_mono hj hji
      rw [H.1] at this
      cases this
  | succ fuel ih =>
    intro listed a w hc hfree hr hmem hy H
    refine ⟨fun h => (by rw [h] at hr; cases hr), fun j hj => ?_⟩
    by_cases hji : j = i
    · subst hji; exact hy.opI hi ⟨.inl (Ext.refl w), H⟩
    · have h1 := H.2 j (ready_mono hj hji)
      have h1' : OpI P ops j (a.put oi.dst v) w fun a' w' => Ext w w' ∧ AnyX P ops Q fuel ((listed.setIfInBounds i true).setIfInBounds j true) a' w' :=
        h1.mono fun a' w' ⟨x, q⟩ => ⟨x.resolve_right fun hb => hji (hb listed hc hj i hr (by simp only [memI, hi]; exact hmem)).symm, q⟩
      obtain ⟨hjun, oj, hoj, hall⟩ := mem_ready.1 hj
      have hnot : ∀ e ∈ oj.after, Region.binds .any e = true → e.on ≠ i := fun e he hb heq => by
        have h1 := hall e he hb
        rw [heq] at h1
        exact getD_tf (mem_ready.1 hr).1 h1
      have h2 := OpI.put hoj (hfree j oj hoj hji hjun hnot) (fun cs b => hsel i oi cs b hi) (fun cs b => hsel j oj cs b hoj) hy h1'
      have hfree' : ∀ k ok, ops[k]? = some ok → k ≠ i → (listed.setIfInBounds j true).getD k true = false →
          (∀ e ∈ ok.after, Region.binds .any e = true → e.on ≠ i) → oi.apart ops ok = true := fun k ok hk hki hun hno => by
        refine hfree k ok hk hki ?_ hno
        by_cases hjk : j = k
        · subst hjk; exact hjun
        · rw [getD_set_ne true hjk] at hun; exact hun
      refine h2.mono fun a' w' ⟨x, hy', h3⟩ => ⟨.inl x, ih (listed.setIfInBounds j true) a' w' (hc.set hj) hfree' (ready_mono hr (Ne.symm hji)) hmem hy' ?_⟩
      rw [Array.setIfInBounds_comm _ _ hji]
      exact h3

theorem OpI.putU {P : Program} {ops : Array Oper} {j : Nat} {oi oj : Oper} {v : Value} (hj : ops[j]? = some oj) (hap : oi.apart ops oj = true)
    (hsi : ∀ cs b, oi.op ≠ .select cs b) (hsj : ∀ cs b, oj.op ≠ .select cs b) {K : Act → World → Prop} {a : Act} {w : World}
    (hy : Yields P ops oi v a) (h : OpI P ops j (a.put oi.dst v) w K) : OpI P ops j a w fun a' w' => Yields P ops oi v a' ∧ K (a'.put oi.dst v) w' := by
  obtain ⟨h1, h2, h3⟩ := Oper.apart_spec hap
  have keep : ∀ (u : Value), Yields P ops oi v (a.put oj.dst u) := fun u => hy.of_same (execOp_put oi hsi a oj.dst u h3) (wanted_put oi a oj.dst u h3)
  unfold OpI at *
  simp only [hj] at *
  rw [wanted_put oj a oi.dst v h1] at h
  split
  · rename_i hw
    rw [if_pos hw] at h
    unfold OpR at *
    rw [execOp_put oj hsj a oi.dst v h1] at h
    generalize (execOp a.eval oj).run P w = r at *
    cases r with
    | halt x w' => exact h
    | ok n w' =>
      cases n <;> first
        | exact h
        | exact ⟨keep _, by rw [← Act.put_comm a v _ h2]; exact h⟩
        | exact Calls.mono h fun e w'' ⟨u, e1, k⟩ => ⟨u, e1, keep _, by rw [← Act.put_comm a v u h2]; exact k⟩
  · rename_i hw
    rw [if_neg hw] at h
    exact ⟨keep _, by rw [← Act.put_comm a v undef h2]; exact h⟩
theorem yieldsU_opI {P : Program} {ops : Array Oper} {i : Nat} {o : Oper} {v : Value} {a : Act} {w : World} {K : Act → World → Prop} (hi : ops[i]? = some o) (hy : Yields P ops o v a) (h : K (a.put o.dst v) w) : OpI P ops i a w K := by
  unfold OpI
  simp only [hi]
  rcases hy with ⟨hw, hv⟩ | ⟨hw, rfl⟩
  · rw [if_pos hw]; unfold OpR; rw [hv w]; exact h
  · rw [if_neg (by rw [hw]; simp)]; exact h
/-- what does not look at memory may be taken first -/
theorem AnyX.firstU {P : Program} {ops : Array Oper} {Q : Exit → Act → World → Prop} {i : Nat} {oi : Oper} {v : Value} (hi : ops[i]? = some oi) (hsel : ∀ (j : Nat) (o : Oper) cs b, ops[j]? = some o → o.op ≠ .select cs b) :
    ∀ (fuel : Nat) (listed : Array Bool) (a : Act) (w : World),
      (∀ j oj, ops[j]? = some oj → j ≠ i → listed.getD j true = false → (∀ e ∈ oj.after, Region.binds .any e = true → e.on ≠ i) → oi.apart ops oj = true) →
      i ∈ Region.ready .any ops listed → Yields P ops oi v a →
      AnyX P ops Q fuel (listed.setIfInBounds i true) (a.put oi.dst v) w → AnyX P ops Q (fuel + 1) listed a w := by
  intro fuel
  induction fuel with
  | zero =>
    intro listed a w _ hr hy H
    refine ⟨fun h => (by rw [h] at hr; cases hr), fun j hj => ?_⟩
    by_cases hji : j = i
    · subst hji; exact yieldsU_opI hi hy ⟨.inl (Ext.refl w), H⟩
    · have := ready_mono hj hji
      rw [H.1] at this
      cases this
  | succ fuel ih =>
    intro listed a w hfree hr hy H
    refine ⟨fun h => (by rw [h] at hr; cases hr), fun j hj => ?_⟩
    by_cases hji : j = i
    · subst hji; exact yieldsU_opI hi hy ⟨.inl (Ext.refl w), H⟩
    · have h1 := H.2 j (ready_mono hj hji)
      obtain ⟨hjun, oj, hoj, hall⟩ := mem_ready.1 hj
      have hnot : ∀ e ∈ oj.after, Region.binds .any e = true → e.on ≠ i := fun e he hb heq => by
        have h1 := hall e he hb
        rw [heq] at h1
        exact getD_tf (mem_ready.1 hr).1 h1
      have h2 := OpI.putU hoj (hfree j oj hoj hji hjun hnot) (fun cs b => hsel i oi cs b hi) (fun cs b => hsel j oj cs b hoj) hy h1
      have hfree' : ∀ k ok, ops[k]? = some ok → k ≠ i → (listed.setIfInBounds j true).getD k true = false →
          (∀ e ∈ ok.after, Region.binds .any e = true → e.on ≠ i) → oi.apart ops ok = true := fun k ok hk hki hun hno => by
        refine hfree k ok hk hki ?_ hno
        by_cases hjk : j = k
        · subst hjk; exact hjun
        · rw [getD_set_ne true hjk] at hun; exact hun
      refine h2.mono fun a' w' ⟨hy', x, h3⟩ => ⟨x, ih (listed.setIfInBounds j true) a' w' hfree' (ready_mono hr (Ne.symm hji)) hy' ?_⟩
      rw [Array.setIfInBounds_comm _ _ hji]
      exact h3

/-- what is left of a region, in whatever order -/
def AB (P : Program) (n : Nat) (ops : Array Oper) (k : Nat) (listed : Array Bool) (f : Fr) (E : Env) (H : List HProp) (K : Kont) : Prop :=
  Closed ops listed → ∀ w a, Rel n f a.tmps → a.defers = [] → St E H w → AnyX P ops (Post n E K) k listed a w
/-- may i be taken first? -/
def firstB (ops : Array Oper) (listed : Array Bool) (i : Nat) : Bool := Region.noSelect ops && (Region.ready .any ops listed).contains i && Region.free .any ops listed i
def onlyB (ops : Array Oper) (listed : Array Bool) (i : Nat) : Bool := Region.ready .any ops listed == [i]
section
variable {P : Program} {n : Nat} {f : Fr} {E : Env} {H : List HProp} {K : Kont} {ops : Array Oper} {k : Nat} {listed : Array Bool}
theorem Closed.none (ops : Array Oper) (m : Nat) : Closed ops (Array.replicate m false) := fun j oj _ hl => by
  have : (Array.replicate m false).getD j false = false := by
    rcases Nat.lt_or_ge j m with h | h <;> simp [h]
  rw [this] at hl; cases hl
theorem Body.draw {id : Nat} {l : List Oper} (hm : P.follows .mixedOrders = true) (h : AB P n l.toArray l.length (Array.replicate l.length false) f E H K) : Body P n (.region id l.toArray true) f E H K := fun w a r d s =>
  wp_region_any hm (AnyX.wpAny _ _ _ _ (by
    have := h (Closed.none _ _) { w with drawn := w.drawn + 1 } a r d (s.ext ⟨Hp.Le.refl _, rfl, rfl, rfl⟩)
    simpa using this))
theorem AB.done (hr : (Region.ready .any ops listed).isEmpty = true) (h : K .norm f H) : AB P n ops k listed f E H K := fun _ w a r d s => by
  have hr' : Region.ready .any ops listed = [] := by simpa using hr
  cases k with
  | zero => exact ⟨hr', d, f, H, r, h, s⟩
  | succ k => exact ⟨fun _ => ⟨d, f, H, r, h, s⟩, fun i hi => by rw [hr'] at hi; cases hi⟩
theorem AB.first (i : Nat) {o : Oper} {v : Value} (hi : ops[i]? = some o) (hB : firstB ops listed i = true) (hmem : memB o = true) (hg : o.guard = none) (hd : okD n o.dst = true) (h : Det P n f E H o v)
    (hk : AB P n ops k (listed.setIfInBounds i true) (updO f o.dst v) E H K) : AB P n ops (k + 1) listed f E H K := fun hc w a r d s => by
  simp only [firstB, Bool.and_eq_true] at hB
  have hr : i ∈ Region.ready .any ops listed := by simpa using hB.1.2
  exact AnyX.first hi (Region.noSelect_spec hB.1.1) k listed a w hc (Region.free_spec hi hB.2) hr hmem (.inl ⟨wanted_none hg _, fun w' x => h w' a r (s.ext x)⟩)
    (hk (hc.set hr) w _ (r.put hd v) ((put_defers _ _ _).trans d) s)
theorem AB.firstYes (i : Nat) {o : Oper} {v : Value} {j t : Nat} {b : Bool} (hi : ops[i]? = some o) (hB : firstB ops listed i = true) (hmem : memB o = true) (hg : o.guard = some (j, b)) (hj : guardSlot ops j = some t) (ht : Nat.blt t n = true)
    (hb : f t = .bool b) (hd : okD n o.dst = true) (h : Det P n f E H o v) (hk : AB P n ops k (listed.setIfInBounds i true) (updO f o.dst v) E H K) : AB P n ops (k + 1) listed f E H K := fun hc w a r d s => by
  simp only [firstB, Bool.and_eq_true] at hB
  have hr : i ∈ Region.ready .any ops listed := by simpa using hB.1.2
  exact AnyX.first hi (Region.noSelect_spec hB.1.1) k listed a w hc (Region.free_spec hi hB.2) hr hmem (.inl ⟨by simp only [Region.wanted, hg, yielded_rel r hj ht hb]; simp, fun w' x => h w' a r (s.ext x)⟩)
    (hk (hc.set hr) w _ (r.put hd v) ((put_defers _ _ _).trans d) s)
theorem AB.firstNo (i : Nat) {o : Oper} {j t : Nat} {b : Bool} (hi : ops[i]? = some o) (hB : firstB ops listed i = true) (hg : o.guard = some (j, b)) (hj : guardSlot ops j = some t) (ht : Nat.blt t n = true)
    (hne : isB (f t) b = false) (hd : okD n o.dst = true) (hk : AB P n ops k (listed.setIfInBounds i true) (updO f o.dst undef) E H K) : AB P n ops (k + 1) listed f E H K := fun hc w a r d s => by
  simp only [firstB, Bool.and_eq_true] at hB
  have hr : i ∈ Region.ready .any ops listed := by simpa using hB.1.2
  exact AnyX.firstU hi (Region.noSelect_spec hB.1.1) k listed a w (Region.free_spec hi hB.2) hr (.inr ⟨wanted_rel r hg hj ht hne, rfl⟩)
    (hk (hc.set hr) w _ (r.put hd undef) ((put_defers _ _ _).trans d) s)
theorem AB.firstU (i : Nat) {o : Oper} {v : Value} (hi : ops[i]? = some o) (hB : firstB ops listed i = true) (hg : o.guard = none) (hd : okD n o.dst = true) (h : Dtu P n f E H o v)
    (hk : AB P n ops k (listed.setIfInBounds i true) (updO f o.dst v) E H K) : AB P n ops (k + 1) listed f E H K := fun hc w a r d s => by
  simp only [firstB, Bool.and_eq_true] at hB
  have hr : i ∈ Region.ready .any ops listed := by simpa using hB.1.2
  exact AnyX.firstU hi (Region.noSelect_spec hB.1.1) k listed a w (Region.free_spec hi hB.2) hr (.inl ⟨wanted_none hg _, fun w' => h w s w' a r⟩)
    (hk (hc.set hr) w _ (r.put hd v) ((put_defers _ _ _).trans d) s)
theorem AB.firstYesU (i : Nat) {o : Oper} {v : Value} {j t : Nat} {b : Bool} (hi : ops[i]? = some o) (hB : firstB ops listed i = true) (hg : o.guard = some (j, b)) (hj : guardSlot ops j = some t) (ht : Nat.blt t n = true)
    (hb : f t = .bool b) (hd : okD n o.dst = true) (h : Dtu P n f E H o v) (hk : AB P n ops k (listed.setIfInBounds i true) (updO f o.dst v) E H K) : AB P n ops (k + 1) listed f E H K := fun hc w a r d s => by
  simp only [firstB, Bool.and_eq_true] at hB
  have hr : i ∈ Region.ready .any ops listed := by simpa using hB.1.2
  exact AnyX.firstU hi (Region.noSelect_spec hB.1.1) k listed a w (Region.free_spec hi hB.2) hr (.inl ⟨by simp only [Region.wanted, hg, yielded_rel r hj ht hb]; simp, fun w' => h w s w' a r⟩)
    (hk (hc.set hr) w _ (r.put hd v) ((put_defers _ _ _).trans d) s)
/-- the only one that may come up -/
theorem AB.only {q : Bool} (i : Nat) {o : Oper} (hi : ops[i]? = some o) (hB : onlyB ops listed i = true) (hq : (q || barB ops i) = true) (hg : o.guard = none) (hd : okD n o.dst = true)
    (h : Stp q P n f E H o fun v H' => AB P n ops k (listed.setIfInBounds i true) (updO f o.dst v) E H' K) : AB P n ops (k + 1) listed f E H K := fun hc w a r d s => by
  have hr : Region.ready .any ops listed = [i] := by simpa [onlyB] using hB
  refine ⟨fun e => (by rw [hr] at e; cases e), fun j hj => ?_⟩
  have hmem : i ∈ Region.ready .any ops listed := by rw [hr]; simp
  rw [hr] at hj
  obtain rfl : j = i := by simpa using hj
  unfold OpI
  simp only [hi]
  rw [if_pos (wanted_none hg _)]
  refine (h w a r s).mono ?_
  rintro v w' ⟨x, H', kk, s'⟩
  refine ⟨?_, kk (hc.set hmem) w' _ (r.put hd v) ((put_defers _ _ _).trans d) s'⟩
  cases q with
  | true => exact .inl (x rfl)
  | false => exact .inr (bar_of (by simpa using hq))
/-- the only one that may come up, its guard met -/
theorem AB.onlyG {q : Bool} (i : Nat) {o : Oper} {j t : Nat} {b : Bool} (hi : ops[i]? = some o) (hB : onlyB ops listed i = true) (hq : (q || barB ops i) = true) (hg : o.guard = some (j, b)) (hj : guardSlot ops j = some t) (ht : Nat.blt t n = true) (hb : f t = .bool b) (hd : okD n o.dst = true)
    (h : Stp q P n f E H o fun v H' => AB P n ops k (listed.setIfInBounds i true) (updO f o.dst v) E H' K) : AB P n ops (k + 1) listed f E H K := fun hc w a r d s => by
  have hr : Region.ready .any ops listed = [i] := by simpa [onlyB] using hB
  refine ⟨fun e => (by rw [hr] at e; cases e), fun j' hj' => ?_⟩
  have hmem : i ∈ Region.ready .any ops listed := by rw [hr]; simp
  rw [hr] at hj'
  obtain rfl : j' = i := by simpa using hj'
  unfold OpI
  simp only [hi]
  rw [if_pos (by simp only [Region.wanted, hg, yielded_rel r hj ht hb]; simp)]
  refine (h w a r s).mono ?_
  rintro v w' ⟨x, H', kk, s'⟩
  refine ⟨?_, kk (hc.set hmem) w' _ (r.put hd v) ((put_defers _ _ _).trans d) s'⟩
  cases q with
  | true => exact .inl (x rfl)
  | false => exact .inr (bar_of (by simpa using hq))
theorem AB.split {b : Bool} (h1 : b = true → AB P n ops k listed f E H K) (h2 : b = false → AB P n ops k listed f E H K) : AB P n ops k listed f E H K := by
  cases b
  · exact h2 rfl
  · exact h1 rfl
end
end Go.Sx
end
section
/- What single operations do: numbers, Bools, frames; then memory. -/
namespace Go.Sx
open Go

/-! ### wraps -/
theorem w64 {n : Int} (h1 : -9223372036854775808 ≤ n) (h2 : n ≤ 9223372036854775807) : IntKind.i64.wrap n = n := by
  rw [IntWalk.i64_left]; exact IntWalk.wrap64_in n ⟨h1, h2⟩
theorem wu8 {n : Int} (h1 : 0 ≤ n) (h2 : n ≤ 255) : IntKind.u8.wrap n = n := by
  simp only [IntKind.wrap, IntKind.bits, IntKind.signed]; simp; omega
theorem wu32 {n : Int} (h1 : 0 ≤ n) (h2 : n ≤ 4294967295) : IntKind.u32.wrap n = n := by
  simp only [IntKind.wrap, IntKind.bits, IntKind.signed]; simp; omega
theorem wu64 {n : Int} (h1 : 0 ≤ n) (h2 : n ≤ 18446744073709551615) : IntKind.u64.wrap n = n := by
  simp only [IntKind.wrap, IntKind.bits, IntKind.signed]; simp; omega
def ibit (op : BinOp) (k : IntKind) (x y : Int) : Int :=
  let a := BitVec.ofInt k.bits x
  let b := BitVec.ofInt k.bits y
  match op with
  | .and => k.wrap (a &&& b).toNat
  | .or => k.wrap (a ||| b).toNat
  | .xor => k.wrap (a ^^^ b).toNat
  | .andNot => k.wrap (a &&& ~~~b).toNat
  | _ => 0

theorem run_v (P : Program) (x : Sem Value) (w : World) : (do pure (Next.value (← x)) : Sem Next).run P w = (x.run P w).andThen fun v w' => .ok (.value v) w' := by
  rw [Sem.run_bind]; rfl
theorem run_u (P : Program) (x : Sem Unit) (w : World) : (do x; pure Next.skip : Sem Next).run P w = (x.run P w).andThen fun _ w' => .ok .skip w' := by
  rw [Sem.run_bind]; rfl

section
variable {P : Program} {n : Nat} {f : Fr} {E : Env} {H : List HProp} {d : Option Nat} {ty : TypeId} {pos : String} {aft : Array Edge} {g : Option (Nat × Bool)} {x y z : Operand}
theorem Dtu.mv {v : Value} (hx : ev f x = v) : Dtu P n f E H ⟨d, .move x, ty, pos, aft, g⟩ v := fun w0 s w a r => by
  simp only [execOp, r.eval, hx, Sem.run_pure]
theorem Dtu.asg {v : Value} (hx : ev f x = v) : Dtu P n f E H ⟨d, .assign x, ty, pos, aft, g⟩ v := fun w0 s w a r => by
  simp only [execOp, r.eval, hx, Sem.run_pure]
theorem Dtu.pick {t : Bool} {p q : Value} (hx : ev f x = .bool t) (hy : ev f y = p) (hz : ev f z = q) : Dtu P n f E H ⟨d, .pick x y z, ty, pos, aft, g⟩ (bif t then p else q) := fun w0 s w a r => by
  simp only [execOp, r.eval, hx, hy, hz, asBool, Sem.run_bind, Sem.run_pure, Result.andThen_ok]
  cases t <;> rfl
theorem Dtu.pickT {p : Value} (hx : ev f x = .bool true) (hy : ev f y = p) : Dtu P n f E H ⟨d, .pick x y z, ty, pos, aft, g⟩ p := Dtu.pick hx hy rfl
theorem Dtu.pickF {q : Value} (hx : ev f x = .bool false) (hz : ev f z = q) : Dtu P n f E H ⟨d, .pick x y z, ty, pos, aft, g⟩ q := Dtu.pick hx rfl hz
theorem Dtu.or {p q : Bool} (hx : ev f x = .bool p) (hy : ev f y = .bool true) (hz : ev f z = .bool q) : Dtu P n f E H ⟨d, .pick x y z, ty, pos, aft, g⟩ (.bool (p || q)) := by
  have := Dtu.pick (P := P) (n := n) (E := E) (H := H) (d := d) (ty := ty) (pos := pos) (aft := aft) (g := g) hx hy hz
  cases p <;> exact this
theorem Dtu.and {p q : Bool} (hx : ev f x = .bool p) (hy : ev f y = .bool q) (hz : ev f z = .bool false) : Dtu P n f E H ⟨d, .pick x y z, ty, pos, aft, g⟩ (.bool (p && q)) := by
  have := Dtu.pick (P := P) (n := n) (E := E) (H := H) (d := d) (ty := ty) (pos := pos) (aft := aft) (g := g) hx hy hz
  cases p <;> exact this

theorem Dtu.bin {op : BinOp} {t t' : TypeId} {k k' : IntKind} {a b : Int} {v : Value} (hx : ev f x = .int k a) (hy : ev f y = .int k' b)
    (h : ∀ w, (binOp op t (.int k a) (.int k' b)).run P w = .ok v w) : Dtu P n f E H ⟨d, .binOp op t x y t', ty, pos, aft, g⟩ v := fun w0 s w a' r => by
  have e : ∀ w, (eqGuard op t x y (.int k a) (.int k' b)).run P w = .ok () w := fun w => by
    unfold eqGuard; cases op <;> rfl
  simp only [execOp, r.eval, hx, hy, Sem.run_bind, e, Result.andThen_ok, h, Sem.run_pure]
theorem Dtu.add {t t' : TypeId} {k : IntKind} {a b c : Int} (hx : ev f x = .int k a) (hy : ev f y = .int k b) (h : k.wrap (a + b) = c) : Dtu P n f E H ⟨d, .binOp .add t x y t', ty, pos, aft, g⟩ (.int k c) :=
  Dtu.bin hx hy fun w => by subst h; simp [binOp, Op.intArith]
theorem Dtu.sub {t t' : TypeId} {k : IntKind} {a b c : Int} (hx : ev f x = .int k a) (hy : ev f y = .int k b) (h : k.wrap (a - b) = c) : Dtu P n f E H ⟨d, .binOp .sub t x y t', ty, pos, aft, g⟩ (.int k c) :=
  Dtu.bin hx hy fun w => by subst h; simp [binOp, Op.intArith]
theorem Dtu.mul {t t' : TypeId} {k : IntKind} {a b c : Int} (hx : ev f x = .int k a) (hy : ev f y = .int k b) (h : k.wrap (a * b) = c) : Dtu P n f E H ⟨d, .binOp .mul t x y t', ty, pos, aft, g⟩ (.int k c) :=
  Dtu.bin hx hy fun w => by subst h; simp [binOp, Op.intArith]
theorem Dtu.quo {t t' : TypeId} {k : IntKind} {a b c : Int} (hx : ev f x = .int k a) (hy : ev f y = .int k b) (h0 : b ≠ 0) (h : k.wrap (a.tdiv b) = c) : Dtu P n f E H ⟨d, .binOp .quo t x y t', ty, pos, aft, g⟩ (.int k c) :=
  Dtu.bin hx hy fun w => by subst h; simp [binOp, Op.intDiv, h0]
theorem Dtu.rem {t t' : TypeId} {k : IntKind} {a b c : Int} (hx : ev f x = .int k a) (hy : ev f y = .int k b) (h0 : b ≠ 0) (h : a.tmod b = c) : Dtu P n f E H ⟨d, .binOp .rem t x y t', ty, pos, aft, g⟩ (.int k c) :=
  Dtu.bin hx hy fun w => by subst h; simp [binOp, Op.intDiv, h0]
theorem Dtu.shl {t t' : TypeId} {k k' : IntKind} {a b c : Int} (hx : ev f x = .int k a) (hy : ev f y = .int k' b) (h0 : 0 ≤ b) (h : k.wrap (a * 2 ^ (min b.toNat k.bits)) = c) : Dtu P n f E H ⟨d, .binOp .shl t x y t', ty, pos, aft, g⟩ (.int k c) :=
  Dtu.bin hx hy fun w => by subst h; simp [binOp, Op.shift, show ¬ b < 0 by omega]
theorem Dtu.shr {t t' : TypeId} {k k' : IntKind} {a b c : Int} (hx : ev f x = .int k a) (hy : ev f y = .int k' b) (h0 : 0 ≤ b) (h : a.fdiv (2 ^ (min b.toNat k.bits)) = c) : Dtu P n f E H ⟨d, .binOp .shr t x y t', ty, pos, aft, g⟩ (.int k c) :=
  Dtu.bin hx hy fun w => by subst h; simp [binOp, Op.shift, show ¬ b < 0 by omega]
theorem Dtu.bit {op : BinOp} {t t' : TypeId} {k : IntKind} {a b c : Int} (hop : (match op with | .and | .or | .xor | .andNot => true | _ => false) = true) (hx : ev f x = .int k a) (hy : ev f y = .int k b) (h : ibit op k a b = c) :
    Dtu P n f E H ⟨d, .binOp op t x y t', ty, pos, aft, g⟩ (.int k c) :=
  Dtu.bin hx hy fun w => by subst h; cases op <;> simp at hop <;> simp [binOp, Op.intBits, ibit]
theorem Dtu.lss {t t' : TypeId} {k : IntKind} {a b : Int} (hx : ev f x = .int k a) (hy : ev f y = .int k b) : Dtu P n f E H ⟨d, .binOp .lss t x y t', ty, pos, aft, g⟩ (.bool (decide (a < b))) :=
  Dtu.bin hx hy fun w => by simp [binOp, Op.intCmp]
theorem Dtu.leq {t t' : TypeId} {k : IntKind} {a b : Int} (hx : ev f x = .int k a) (hy : ev f y = .int k b) : Dtu P n f E H ⟨d, .binOp .leq t x y t', ty, pos, aft, g⟩ (.bool (decide (a ≤ b))) :=
  Dtu.bin hx hy fun w => by simp [binOp, Op.intCmp]
theorem Dtu.gtr {t t' : TypeId} {k : IntKind} {a b : Int} (hx : ev f x = .int k a) (hy : ev f y = .int k b) : Dtu P n f E H ⟨d, .binOp .gtr t x y t', ty, pos, aft, g⟩ (.bool (decide (b < a))) :=
  Dtu.bin hx hy fun w => by simp [binOp, Op.intCmp]
theorem Dtu.geq {t t' : TypeId} {k : IntKind} {a b : Int} (hx : ev f x = .int k a) (hy : ev f y = .int k b) : Dtu P n f E H ⟨d, .binOp .geq t x y t', ty, pos, aft, g⟩ (.bool (decide (b ≤ a))) :=
  Dtu.bin hx hy fun w => by simp [binOp, Op.intCmp]
theorem Dtu.eql {t t' : TypeId} {k : IntKind} {a b : Int} (hx : ev f x = .int k a) (hy : ev f y = .int k b) : Dtu P n f E H ⟨d, .binOp .eql t x y t', ty, pos, aft, g⟩ (.bool (decide (a = b))) :=
  Dtu.bin hx hy fun w => by simp [binOp, Op.intCmp]; rfl
theorem Dtu.neq {t t' : TypeId} {k : IntKind} {a b : Int} (hx : ev f x = .int k a) (hy : ev f y = .int k b) : Dtu P n f E H ⟨d, .binOp .neq t x y t', ty, pos, aft, g⟩ (.bool (decide (a ≠ b))) :=
  Dtu.bin hx hy fun w => by simp [binOp, Op.intCmp]; rfl
theorem Dtu.not {t : TypeId} {b : Bool} (hx : ev f x = .bool b) : Dtu P n f E H ⟨d, .unOp .not t x, ty, pos, aft, g⟩ (.bool (!b)) := fun w0 s w a r => by
  simp [execOp, r.eval, hx, Op.unary]
theorem Dtu.notP {t : TypeId} {p : Prop} {_ : Decidable p} (hx : ev f x = .bool (decide p)) : Dtu P n f E H ⟨d, .unOp .not t x, ty, pos, aft, g⟩ (.bool (decide (¬ p))) := by
  have := Dtu.not (P := P) (n := n) (E := E) (H := H) (d := d) (ty := ty) (pos := pos) (aft := aft) (g := g) (t := t) hx
  simpa using this
theorem Dtu.neg {t : TypeId} {k : IntKind} {a c : Int} (hx : ev f x = .int k a) (h : k.wrap (0 - a) = c) : Dtu P n f E H ⟨d, .unOp .neg t x, ty, pos, aft, g⟩ (.int k c) := fun w0 s w a r => by
  subst h; simp [execOp, r.eval, hx, Op.unary, Op.intArith]
theorem Dtu.cpl {t : TypeId} {k : IntKind} {a c : Int} (hx : ev f x = .int k a) (h : ibit .xor k (if k.signed then -1 else k.max) a = c) : Dtu P n f E H ⟨d, .unOp .xor t x, ty, pos, aft, g⟩ (.int k c) := fun w0 s w a r => by
  subst h; simp [execOp, r.eval, hx, Op.unary, Op.intBits, ibit]
/-- conversion of a whole number -/
theorem Dtu.cvt {s t : TypeId} {k j : IntKind} {a c : Int} {D : TypeDesc} (hs : P.underlying s = some D) (ht : P.underlying t = some (.int j)) (hx : ev f x = .int k a) (h : j.wrap a = c) :
    Dtu P n f E H ⟨d, .convert s t x, ty, pos, aft, g⟩ (.int j c) := fun w0 s w a r => by
  subst h
  simp only [execOp, r.eval, hx, convert, Sem.run_bind, run_underlying hs, run_underlying ht, Result.andThen_ok, Conv.intToInt]
  cases D <;> rfl
theorem Dtu.ext {i : Nat} {vs : List Value} {v : Value} (hx : ev f x = .tuple vs.toArray) (hi : vs[i]? = some v) : Dtu P n f E H ⟨d, .extract x i, ty, pos, aft, g⟩ v := fun w0 s w a r => by
  simp [execOp, r.eval, hx, Instr.extract, hi]
theorem Dtu.len {t : TypeId} {e : TypeId} {a : Option Addr} {m c : Nat} (ht : P.underlying t = some (.slice e)) (hx : ev f x = .slice a m c) :
    Dtu P n f E H ⟨d, .call { callee := .builtin .len, args := #[x], argTypes := #[t] }, ty, pos, aft, g⟩ (.int .i64 m) := fun w0 s w a' r => by
  simp [execOp, r.eval, hx, resolve, invoke, builtin, Builtin.len_, run_underlying ht, goInt]
theorem Dtu.cap {t : TypeId} {e : TypeId} {a : Option Addr} {m c : Nat} (ht : P.underlying t = some (.slice e)) (hx : ev f x = .slice a m c) :
    Dtu P n f E H ⟨d, .call { callee := .builtin .cap, args := #[x], argTypes := #[t] }, ty, pos, aft, g⟩ (.int .i64 c) := fun w0 s w a' r => by
  simp [execOp, r.eval, hx, resolve, invoke, builtin, Builtin.cap_, run_underlying ht, goInt]
theorem Dtu.lenStr {t : TypeId} {b : ByteArray} (ht : P.underlying t = some .string) (hx : ev f x = .string b) :
    Dtu P n f E H ⟨d, .call { callee := .builtin .len, args := #[x], argTypes := #[t] }, ty, pos, aft, g⟩ (.int .i64 b.size) := fun w0 s w a' r => by
  simp [execOp, r.eval, hx, resolve, invoke, builtin, Builtin.len_, run_underlying ht, goInt]
theorem Dtu.max {t u : TypeId} {k : IntKind} {a b : Int} (hx : ev f x = .int k a) (hy : ev f y = .int k b) :
    Dtu P n f E H ⟨d, .call { callee := .builtin .max, args := #[x, y], argTypes := #[t, u] }, ty, pos, aft, g⟩ (.int k (Max.max a b)) := fun w0 s w a' r => by
  simp only [execOp, r.eval, resolve, invoke, builtin, Builtin.max_, Sem.run_bind, Sem.run_pure, Result.andThen_ok]
  simp [hx, hy, Builtin.max2]
  omega
theorem Dtu.min {t u : TypeId} {k : IntKind} {a b : Int} (hx : ev f x = .int k a) (hy : ev f y = .int k b) :
    Dtu P n f E H ⟨d, .call { callee := .builtin .min, args := #[x, y], argTypes := #[t, u] }, ty, pos, aft, g⟩ (.int k (Min.min a b)) := fun w0 s w a' r => by
  simp only [execOp, r.eval, resolve, invoke, builtin, Builtin.min_, Sem.run_bind, Sem.run_pure, Result.andThen_ok]
  simp [hx, hy, Builtin.min2]
  omega
theorem Dtu.nilck {a : Addr} (hx : ev f x = .pointer (some a)) : Dtu P n f E H ⟨d, .nilCheck x, ty, pos, aft, g⟩ (.pointer (some a)) := fun w0 s w a' r => by
  simp [execOp, r.eval, hx]
end

/-! ### calls -/
section
variable {P : Program} {n : Nat} {f : Fr} {E : Env} {H : List HProp} {d : Option Nat} {ty : TypeId} {pos : String} {aft : Array Edge} {g : Option (Nat × Bool)}
def evs (f : Fr) (xs : List Operand) : List Value := xs.map (ev f)
theorem run_call {fn : FuncId} {a : Act} (r : Rel n f a.tmps) (xs : List Operand) {ts : Array TypeId} {c : Operand} (hc : ev f c = .func (.func fn) #[] #[])
    (hcall : ∀ args w, (callFunc fn args).run P w = .ok (.enter fn args) w) (w : World) :
    (execOp a.eval ⟨d, .call { callee := .value c, args := xs.toArray, argTypes := ts }, ty, pos, aft, g⟩).run P w = .ok (.enter fn (evs f xs).toArray) w := by
  simp [execOp, r.eval, resolve, hc, Deferred.ofValue, invoke, hcall, evs]
/-- a call that owns nothing of ours: what we own stays in sight -/
theorem Stp.call {fn : FuncId} {xs : List Operand} {args : List Value} {ts : Array TypeId} {c : Operand} {K : Value → List HProp → Prop} {Q : Value → List HProp → Prop}
    (hc : ev f c = .func (.func fn) #[] #[]) (hcall : ∀ args w, (callFunc fn args).run P w = .ok (.enter fn args) w) (hx : evs f xs = args)
    (h : ∀ E', E.Le E' → (∀ A ∈ H, At A E') → Does P fn args.toArray E' [] Q) (k : ∀ v A, Q v A → K v (A ++ H)) :
    Stp true P n f E H ⟨d, .call { callee := .value c, args := xs.toArray, argTypes := ts }, ty, pos, aft, g⟩ K := fun w a r s => by
  unfold OpR
  rw [run_call r xs hc hcall w, hx]
  refine (h (envOf w) s.le s.at w St.all).mono ?_
  rintro e w' ⟨v, A, rfl, q, s'⟩
  obtain ⟨s2, x⟩ := s.add s'
  exact ⟨v, rfl, fun _ => x, A ++ H, k v A q, s2⟩
/-- a call that is handed some of what we own -/
theorem Stp.callOwn (is : List Nat) {Hc Hf : List HProp} (hp : pick is H = some (Hc, Hf)) {fn : FuncId} {xs : List Operand} {args : List Value} {ts : Array TypeId} {c : Operand} {K : Value → List HProp → Prop} {Q : Value → List HProp → Prop}
    (hc : ev f c = .func (.func fn) #[] #[]) (hcall : ∀ args w, (callFunc fn args).run P w = .ok (.enter fn args) w) (hx : evs f xs = args)
    (h : ∀ E', E.Le E' → (∀ A ∈ Hf, At A E') → Does P fn args.toArray E' Hc Q) (k : ∀ v A, Q v A → K v (A ++ Hf)) :
    Stp false P n f E H ⟨d, .call { callee := .value c, args := xs.toArray, argTypes := ts }, ty, pos, aft, g⟩ K := fun w a r s => by
  unfold OpR
  rw [run_call r xs hc hcall w, hx]
  obtain ⟨E', le, hat, s1, back⟩ := (s.perm (pick_perm hp)).frame
  refine (h E' le hat w s1).mono ?_
  rintro e w' ⟨v, A, rfl, q, s'⟩
  exact ⟨v, rfl, fun e => (by cases e), A ++ Hf, k v A q, back A w' s'⟩
end
end Go.Sx
end
section
/- What single operations do to memory: loads, stores, new variables, addresses. -/
namespace Go.Sx
open Go

/-- what is known of a type -/
structure Ty (P : Program) (e : TypeId) (sz bytes : Nat) (z : List Value) : Prop where
  info : ∃ i zv, P.info? e = some i ∧ i.size = sz ∧ i.bytes = bytes ∧ i.zero = some zv ∧ zv.cells = z.toArray
theorem Ty.size {P : Program} {e : TypeId} {sz bytes : Nat} {z : List Value} (h : Ty P e sz bytes z) (w : World) : (sizeOf e).run P w = .ok sz w := by
  obtain ⟨i, zv, hi, rfl, _⟩ := h.info
  simp [sizeOf, typeInfo, hi]
theorem Ty.zero {P : Program} {e : TypeId} {sz bytes : Nat} {z : List Value} (h : Ty P e sz bytes z) : ∃ zv, zv.cells = z.toArray ∧ ∀ w, (zeroValue e).run P w = .ok zv w := by
  obtain ⟨i, zv, hi, _, _, hz, hc⟩ := h.info
  exact ⟨zv, hc, fun w => by simp [zeroValue, typeInfo, hi, hz]⟩
theorem Ty.zvOf {P : Program} {e : TypeId} {i : TypeInfo} {zv : Value} (h : P.info? e = some i) (hz : i.zero = some zv) (w : World) : (zeroValue e).run P w = .ok zv w := by
  simp [zeroValue, typeInfo, h, hz]

/-! ### lists and the like that are written out when they are looked at -/
def forceL : List Value → Option (List Value)
  | [] => some []
  | v :: vs => match forceL vs with
    | some r => some (v :: r)
    | none => none
theorem forceL_eq : ∀ {l r : List Value}, forceL l = some r → l = r
  | [], r, h => by simp only [forceL, Option.some.injEq] at h; exact h
  | v :: vs, r, h => by
    simp only [forceL] at h
    split at h
    · rename_i q hq; rw [forceL_eq hq]; exact Option.some.inj h
    · cases h
theorem forceL_some : ∀ l : List Value, forceL l = some l
  | [] => rfl
  | v :: vs => by simp only [forceL, forceL_some vs]
def setL : List HProp → Nat → HProp → Option (List HProp)
  | [], _, _ => none
  | _ :: H, 0, A => some (A :: H)
  | B :: H, i + 1, A => match setL H i A with
    | some r => some (B :: r)
    | none => none
theorem setL_eq : ∀ {H r : List HProp} {i : Nat} {A : HProp}, setL H i A = some r → H.set i A = r
  | [], _, _, _, h => by cases h
  | _ :: H, r, 0, A, h => by simp only [setL, Option.some.injEq] at h; exact h
  | B :: H, r, i + 1, A, h => by
    simp only [setL] at h
    split at h
    · rename_i q hq; rw [List.set_cons_succ, setL_eq hq]; exact Option.some.inj h
    · cases h
def cellsL : Value → List Value
  | .agg cs => cs.toList
  | v => [v]
theorem cellsL_eq (v : Value) : v.cells = (cellsL v).toArray := by cases v <;> rfl
def spl : List Value → Nat → List Value → Option (List Value)
  | zs, 0, [] => some zs
  | _ :: zs, 0, c :: cs => match spl zs 0 cs with
    | some r => some (c :: r)
    | none => none
  | z :: zs, k + 1, cs => match spl zs k cs with
    | some r => some (z :: r)
    | none => none
  | [], _, _ => none
theorem spl_eq : ∀ {zs : List Value} {off : Nat} {cs r : List Value}, spl zs off cs = some r → r = zs.take off ++ cs ++ zs.drop (off + cs.length) ∧ off + cs.length ≤ zs.length
  | zs, 0, [], r, h => by
    have : zs = r := by cases zs <;> simpa [spl] using h
    subst this; simp
  | z :: zs, 0, c :: cs, r, h => by
    simp only [spl] at h
    split at h
    · rename_i q hq
      obtain ⟨e, l⟩ := spl_eq hq
      obtain rfl := Option.some.inj h
      simp at e l ⊢
      exact ⟨e, l⟩
    · cases h
  | z :: zs, k + 1, cs, r, h => by
    simp only [spl] at h
    split at h
    · rename_i q hq
      obtain ⟨e, l⟩ := spl_eq hq
      obtain rfl := Option.some.inj h
      refine ⟨?_, by simp; omega⟩
      rw [e, show k + 1 + cs.length = (k + cs.length) + 1 by omega]
      simp
    · cases h
  | [], 0, c :: cs, r, h => by simp [spl] at h
  | [], k + 1, cs, r, h => by simp [spl] at h
theorem fold_set : ∀ (cs : List Value) (k off : Nat) (A : Array Value), off + k + cs.length ≤ A.size →
    ((cs.zipIdx k).foldl (fun a p => a.setIfInBounds (off + p.2) p.1) A).toList = A.toList.take (off + k) ++ cs ++ A.toList.drop (off + k + cs.length)
  | [], k, off, A, h => by simp
  | c :: cs, k, off, A, h => by
    simp only [List.zipIdx_cons, List.foldl_cons]
    rw [fold_set cs (k + 1) off _ (by simp at h ⊢; omega)]
    have hk : off + k < A.toList.length := by simp at h ⊢; omega
    have e : (A.setIfInBounds (off + k) c).toList = A.toList.set (off + k) c := by simp
    rw [e]
    have e1 : (A.toList.set (off + k) c).take (off + (k + 1)) = A.toList.take (off + k) ++ [c] := by
      rw [show off + (k + 1) = (off + k) + 1 by omega, List.take_succ_eq_append_getElem (by simpa using hk), List.take_set_of_le (Nat.le_refl _)]
      simp
    have e2 : (A.toList.set (off + k) c).drop (off + (k + 1) + cs.length) = A.toList.drop (off + k + (c :: cs).length) := by
      rw [List.drop_set_of_lt (by omega)]; congr 1; simp; omega
    rw [e1, e2]; simp
def fillL (place : Nat → Option (Nat × Nat)) : List Value → List (Nat × Value) → Option (List Value)
  | zs, [] => some zs
  | zs, (i, v) :: rest => match place i with
    | some (off, size) => bif Nat.beq (cellsL v).length size then (match spl zs off (cellsL v) with
      | some r => fillL place r rest
      | none => none) else none
    | none => none
theorem fillL_eq {place : Nat → Option (Nat × Nat)} : ∀ {qs : List (Nat × Value)} {zs vs : List Value}, fillL place zs qs = some vs → Instr.fill place zs.toArray qs = some vs.toArray
  | [], zs, vs, h => by simp only [fillL, Option.some.injEq] at h; subst h; rfl
  | (i, v) :: rest, zs, vs, h => by
    simp only [fillL] at h
    simp only [Instr.fill]
    split at h
    · rename_i off size hp
      rw [hp]
      dsimp only
      cases hb : Nat.beq (cellsL v).length size with
      | false => rw [hb] at h; simp at h
      | true =>
        rw [hb] at h
        simp only [cond_true] at h
        split at h
        · rename_i r hr
          obtain ⟨e, l⟩ := spl_eq hr
          have hs : v.cells.size = size := by rw [cellsL_eq]; simpa using Nat.eq_of_beq_eq_true hb
          rw [cellsL_eq] at hs ⊢
          rw [if_neg (by simp at hs ⊢; omega)]
          have := fold_set (cellsL v) 0 off zs.toArray (by simpa using l)
          rw [← fillL_eq h]
          congr 1
          apply Array.toList_inj.1
          rw [e]
          simpa [← Array.foldl_toList] using this
        · cases h
    · cases h
def partCell : Value → Nat → Option Value
  | .agg cs, j => cs.toList[j]?
  | v, j => bif Nat.beq j 0 then some v else none
def findCell (place : Nat → Option (Nat × Nat)) (zs : List Value) (c : Nat) : List (Nat × Value) → Option Value
  | [] => zs[c]?
  | (i, v) :: r => match place i with
    | some (off, sz) => bif Nat.ble off c && Nat.blt c (off + sz) then partCell v (c - off) else findCell place zs c r
    | none => none
def collect (p : Nat → Option Value) : Nat → Nat → Option (List Value)
  | _, 0 => some []
  | i, k + 1 => match p i with
    | some v => match collect p (i + 1) k with
      | some r => some (v :: r)
      | none => none
    | none => none

/-! ### reading -/
/-- this cell of this block holds v, in memory that stays -/
def Cell (E : Env) (b off : Nat) (v : Value) : Prop := ∃ c t fz, E.hp b = some (.cells c t fz) ∧ c[off]? = some v
theorem Cell.mono {E E' : Env} {b off : Nat} {v : Value} (h : Cell E b off v) (le : E.Le E') : Cell E' b off v := let ⟨c, t, fz, e, k⟩ := h; ⟨c, t, fz, le.hp b _ e, k⟩
def Rd (E : Env) (H : List HProp) (b off : Nat) (v : Value) : Prop := ∀ w, St E H w → w.cell? ⟨b, off, none⟩ = some v
theorem cell_of_heap {w : World} {b off : Nat} {c : Array Value} {t : TypeId} {fz : Nat × Nat} {v : Value} (h : w.heap[b]? = some (.cells c t fz)) (hc : c[off]? = some v) : w.cell? ⟨b, off, none⟩ = some v := by
  simp [World.cell?, h, hc]
theorem Rd.env {E : Env} {H : List HProp} {b off : Nat} {v : Value} (h : Cell E b off v) : Rd E H b off v := fun _ s =>
  let ⟨_, _, _, e, k⟩ := h; cell_of_heap (s.keep b _ e) k
theorem Rd.ow {E : Env} {H : List HProp} (i : Nat) {b off : Nat} {vs : List Value} {t : TypeId} {v : Value} (hi : H[i]? = some (own b vs t)) (hv : vs[off]? = some v) : Rd E H b off v := fun w s =>
  cell_of_heap (s.get hi).block (by simpa using hv)
def Rds (E : Env) (H : List HProp) (b off : Nat) (us : List Value) : Prop := ∀ j u, us[j]? = some u → Rd E H b (off + j) u
theorem Rds.nil {E : Env} {H : List HProp} {b off : Nat} : Rds E H b off [] := fun _ _ h => by simp at h
theorem Rds.ow {E : Env} {H : List HProp} (i : Nat) {b off m : Nat} {vs us : List Value} {t : TypeId} (hi : H[i]? = some (own b vs t)) (hv : forceL ((vs.drop off).take m) = some us) : Rds E H b off us := fun j u hj => by
  obtain rfl := forceL_eq hv
  refine Rd.ow i hi ?_
  rw [List.getElem?_take] at hj
  split at hj
  · rw [List.getElem?_drop] at hj; exact hj
  · cases hj
theorem Rds.owAll {E : Env} {H : List HProp} (i : Nat) {b : Nat} {vs : List Value} {t : TypeId} (hi : H[i]? = some (own b vs t)) : Rds E H b 0 vs := fun j u hj => Rd.ow i hi (by rw [Nat.zero_add]; exact hj)
theorem Rds.sub {E : Env} {H : List HProp} {b off : Nat} {us : List Value} (h : Rds E H b off us) (k m : Nat) : Rds E H b (off + k) ((us.drop k).take m) := fun j u hj => by
  rw [List.getElem?_take] at hj
  split at hj
  · rw [List.getElem?_drop] at hj; rw [Nat.add_assoc]; exact h _ _ hj
  · cases hj

theorem addr_add (b off m : Nat) : (⟨b, off, none⟩ : Addr).add m = ⟨b, off + m, none⟩ := by
  unfold Addr.add; split <;> simp_all

theorem run_load1 {P : Program} {T : TypeId} {a : Addr} {v : Value} {w : World} (hT : ∀ w, (isAgg T).run P w = .ok false w) (h : w.cell? a = some v) : (loadVar T a).run P w = .ok v w := by
  simp [loadVar, hT, h]
theorem run_loadN {P : Program} {T : TypeId} {b off m : Nat} {us : List Value} {w : World} (hT : ∀ w, (isAgg T).run P w = .ok true w) (hm : ∀ w, (sizeOf T).run P w = .ok m w) (hl : us.length = m)
    (h : ∀ j u, us[j]? = some u → w.cell? ⟨b, off + j, none⟩ = some u) : (loadVar T ⟨b, off, none⟩).run P w = .ok (.agg us.toArray) w := by
  have := run_loadCells_list (P := P) w ⟨b, off, none⟩ us (fun j v hv => by rw [addr_add]; exact h j v hv)
  subst hl
  simp [loadVar, hT, hm, this]

section
variable {P : Program} {n : Nat} {f : Fr} {E : Env} {H : List HProp} {d : Option Nat} {ty : TypeId} {pos : String} {aft : Array Edge} {g : Option (Nat × Bool)} {x y z : Operand} {K : Value → List HProp → Prop}
theorem Det.ld {T : TypeId} {b off : Nat} {v : Value} (hT : ∀ w, (isAgg T).run P w = .ok false w) (hx : ev f x = .pointer (some ⟨b, off, none⟩)) (h : Rd E H b off v) : Det P n f E H ⟨d, .load T x, ty, pos, aft, g⟩ v := fun w a r s => by
  simp [execOp, r.eval, hx, Instr.loadAt, Instr.sureAddr, run_load1 hT (h w s)]
theorem Det.lda {T : TypeId} {b off m : Nat} {us : List Value} (hT : ∀ w, (isAgg T).run P w = .ok true w) (hm : ∀ w, (sizeOf T).run P w = .ok m w) (hx : ev f x = .pointer (some ⟨b, off, none⟩)) (h : Rds E H b off us) (hl : us.length = m) :
    Det P n f E H ⟨d, .load T x, ty, pos, aft, g⟩ (.agg us.toArray) := fun w a r s => by
  simp [execOp, r.eval, hx, Instr.loadAt, Instr.sureAddr, run_loadN hT hm hl fun j u hj => h j u hj w s]
theorem Loads.one {T : TypeId} {b off : Nat} {v : Value} (hT : ∀ w, (isAgg T).run P w = .ok false w) (h : Rd E H b off v) : Loads P T (.pointer (some ⟨b, off, none⟩)) v E H := ⟨_, rfl, fun w s => run_load1 hT (h w s)⟩
theorem Loads.agg {T : TypeId} {b off m : Nat} {us : List Value} (hT : ∀ w, (isAgg T).run P w = .ok true w) (hm : ∀ w, (sizeOf T).run P w = .ok m w) (h : Rds E H b off us) (hl : us.length = m) : Loads P T (.pointer (some ⟨b, off, none⟩)) (.agg us.toArray) E H :=
  ⟨_, rfl, fun w s => run_loadN hT hm hl fun j u hj => h j u hj w s⟩

/-! ### new variables -/
theorem Stp.alloc {T : TypeId} {sz bytes : Nat} {zs : List Value} (ht : Ty P T sz bytes zs) (k : ∀ b, K (.pointer (some ⟨b, 0, none⟩)) (own b zs T :: H)) : Stp true P n f E H ⟨d, .alloc T, ty, pos, aft, g⟩ K := fun w a r s => by
  obtain ⟨zv, hc, hz⟩ := ht.zero
  obtain ⟨s2, x⟩ := s.alloc zs T
  have e : (execOp a.eval ⟨d, .alloc T, ty, pos, aft, g⟩).run P w = .ok (.value (.pointer (some ⟨w.heap.size, 0, none⟩))) { w with heap := w.heap.push (.cells zs.toArray T (0, 0)) } := by
    simp [execOp, Instr.alloc, hz, newVar, newRow, hc]
  unfold OpR; rw [e]
  exact ⟨fun _ => x, _, k _, s2⟩
theorem Stp.box {T : TypeId} {v : Value} {vs : List Value} (hx : ev f x = v) (hv : v.cells = vs.toArray) (k : ∀ b, K (.pointer (some ⟨b, 0, none⟩)) (own b vs T :: H)) : Stp true P n f E H ⟨d, .box T x, ty, pos, aft, g⟩ K := fun w a r s => by
  obtain ⟨s2, x'⟩ := s.alloc vs T
  have e : (execOp a.eval ⟨d, .box T x, ty, pos, aft, g⟩).run P w = .ok (.value (.pointer (some ⟨w.heap.size, 0, none⟩))) { w with heap := w.heap.push (.cells vs.toArray T (0, 0)) } := by
    simp [execOp, r.eval, hx, Instr.box, newVar, newRow, hv]
  unfold OpR; rw [e]
  exact ⟨fun _ => x', _, k _, s2⟩

/-! ### stores -/
theorem setRow_write {b : Nat} {vs vs' : List Value} {t : TypeId} {w : World} (s : St E (own b vs t :: H) w) : St E (own b vs' t :: H) (w.setRow b vs'.toArray) :=
  s.write (setRow_heap w b _ _ t (0, 0) s.block) (fun m hm => by simp only [World.setRow, Array.getElem?_modify]; rw [if_neg (fun e => hm e.symm)]) rfl rfl rfl
/-- a value's cells go into an owned block -/
theorem Stp.store (i : Nat) {T : TypeId} {b off m : Nat} {vs us vs' : List Value} {t : TypeId} {v : Value} {H' : List HProp} (hm : ∀ w, (sizeOf T).run P w = .ok m w) (hx : ev f x = .pointer (some ⟨b, off, none⟩)) (hy : ev f y = v) (hv : v.cells = us.toArray) (hul : us.length = m)
    (hi : H[i]? = some (own b vs t)) (hl : Nat.ble (off + m) vs.length = true) (h1 : us.all (·.oneCell') = true) (hn : forceL (vs.take off ++ us ++ vs.drop (off + m)) = some vs') (hH : setL H i (own b vs' t) = some H') (k : K undef H') :
    Stp false P n f E H ⟨d, .store T x y, ty, pos, aft, g⟩ K := fun w a r s => by
  subst hul
  have hl := Nat.le_of_ble_eq_true hl
  obtain rfl := forceL_eq hn
  obtain rfl := setL_eq hH
  have s1 := s.get hi
  have hst := run_storeCells_at P b off t us 0 vs.toArray w s1.block (by simpa using hl) (fun v hv => (List.all_eq_true.1 h1) v hv)
  have e : (execOp a.eval ⟨d, .store T x y, ty, pos, aft, g⟩).run P w = .ok .skip (w.setRow b (vs.take off ++ us ++ vs.drop (off + us.length)).toArray) := by
    simp only [Nat.add_zero] at hst
    simp only [execOp, r.eval, hx, hy, Instr.storeAt, Instr.sureAddr, storeVar, Sem.run_bind, Sem.run_pure, Result.andThen_ok, hm, hv]
    simp [hst]
  unfold OpR; rw [e]
  exact ⟨fun e => (by cases e), _, k, St.put hi (setRow_write s1)⟩

/-! ### addresses -/
theorem Dtu.ixs {t e : TypeId} {sz b off m c i : Nat} {kk : IntKind} {iv : Int} (ht : P.underlying t = some (.slice e)) (hz : ∀ w, (sizeOf e).run P w = .ok sz w) (hx : ev f x = .slice (some ⟨b, off, none⟩) m c) (hy : ev f y = .int kk iv)
    (hi : iv = (i : Int)) (hlt : i < m) : Dtu P n f E H ⟨d, .indexAddr t x y, ty, pos, aft, g⟩ (.pointer (some ⟨b, off + i * sz, none⟩)) := fun w0 s w a r => by
  subst hi
  simp [execOp, r.eval, hx, hy, Instr.indexAt, asIntOf, run_underlying ht, hlt, hz, addr_add]
theorem Dtu.ixa {t e : TypeId} {len sz b off i : Nat} {kk : IntKind} {iv : Int} (ht : P.underlying t = some (.array len e)) (hz : ∀ w, (sizeOf e).run P w = .ok sz w) (hx : ev f x = .pointer (some ⟨b, off, none⟩)) (hy : ev f y = .int kk iv)
    (hi : iv = (i : Int)) (hlt : i < len) : Dtu P n f E H ⟨d, .indexAddr t x y, ty, pos, aft, g⟩ (.pointer (some ⟨b, off + i * sz, none⟩)) := fun w0 s w a r => by
  subst hi
  simp [execOp, r.eval, hx, hy, Instr.indexAt, Instr.sureAddr, asIntOf, run_underlying ht, hlt, hz, addr_add]
/-- a field of a struct's type, not of size nothing -/
def FieldAt (P : Program) (T : TypeId) (i off : Nat) : Prop := ∀ b o w, (Instr.fieldAt T (.pointer (some ⟨b, o, none⟩)) i).run P w = .ok (.pointer (some ⟨b, o + off, none⟩)) w
theorem FieldAt.mk {T : TypeId} {fs : Array Field} {i off sz : Nat} {fd : Field} (hT : P.underlying T = some (.struct fs)) (hf : fs[i]? = some fd) (ho : fd.offset = off) (hs : ∀ w, (sizeOf fd.type).run P w = .ok sz w) (h0 : sz ≠ 0) : FieldAt P T i off := fun b o w => by
  subst ho
  simp [Instr.fieldAt, Instr.sureAddr, run_underlying hT, hf, fieldPlace, hs, h0, addr_add]
theorem Dtu.fld {T : TypeId} {i off b o : Nat} (hF : FieldAt P T i off) (hx : ev f x = .pointer (some ⟨b, o, none⟩)) : Dtu P n f E H ⟨d, .fieldAddr T x i, ty, pos, aft, g⟩ (.pointer (some ⟨b, o + off, none⟩)) := fun w0 s w a r => by
  simp only [execOp, r.eval, hx, run_v, hF b o w, Result.andThen_ok]
/-- a field of a struct's value -/
def FieldOf (P : Program) (T : TypeId) (i off sz : Nat) (agg : Bool) : Prop := ∃ fs fd, P.underlying T = some (.struct fs) ∧ fs[i]? = some fd ∧ fd.offset = off ∧ (∀ w, (isAgg fd.type).run P w = .ok agg w) ∧ (∀ w, (sizeOf fd.type).run P w = .ok sz w)
theorem Dtu.fieldv {T : TypeId} {i off sz : Nat} {vs : List Value} {v : Value} (hF : FieldOf P T i off sz false) (hx : ev f x = .agg vs.toArray) (hv : vs[off]? = some v) : Dtu P n f E H ⟨d, .field T x i, ty, pos, aft, g⟩ v := fun w0 s w a r => by
  obtain ⟨fs, fd, h1, h2, rfl, h4, h5⟩ := hF
  simp [execOp, r.eval, hx, Instr.field, run_underlying h1, h2, part, h4, asAgg, hv]
theorem Dtu.fielda {T : TypeId} {i off sz : Nat} {vs us : List Value} (hF : FieldOf P T i off sz true) (hx : ev f x = .agg vs.toArray) (hv : forceL ((vs.drop off).take sz) = some us) : Dtu P n f E H ⟨d, .field T x i, ty, pos, aft, g⟩ (.agg us.toArray) := fun w0 s w a r => by
  obtain ⟨fs, fd, h1, h2, rfl, h4, h5⟩ := hF
  obtain rfl := forceL_eq hv
  simp [execOp, r.eval, hx, Instr.field, run_underlying h1, h2, part, h4, h5, asAgg]
/-- an element of an array's value -/
theorem Dtu.ixv {t e : TypeId} {len i : Nat} {kk : IntKind} {iv : Int} {vs : List Value} {v : Value} (ht : P.underlying t = some (.array len e)) (hz : ∀ w, (sizeOf e).run P w = .ok 1 w) (ha : ∀ w, (isAgg e).run P w = .ok false w) (hx : ev f x = .agg vs.toArray) (hy : ev f y = .int kk iv)
    (hi : iv = (i : Int)) (hlt : i < len) (hv : vs[i]? = some v) : Dtu P n f E H ⟨d, .index t x y, ty, pos, aft, g⟩ v := fun w0 s w a r => by
  subst hi
  simp [execOp, r.eval, hx, hy, Instr.index, asIntOf, run_underlying ht, hlt, hz, part, ha, hv]
/-! ### structs and arrays put together -/
def PlacesOf (P : Program) (T : TypeId) (pl : List (Nat × Nat)) : Prop := ∃ fs : Array Field, P.underlying T = some (.struct fs) ∧ ∀ w, (fs.mapM (m := Sem) fun f => do pure (f.offset, ← sizeOf f.type)).run P w = .ok pl.toArray w
theorem Dtu.build {T : TypeId} {sz bytes : Nat} {zs : List Value} {pl : List (Nat × Nat)} {ps : List (Nat × Operand)} {qs : List (Nat × Value)} {vs : List Value} (ht : Ty P T sz bytes zs) (hp : PlacesOf P T pl) (hq : ps.map (fun p => (p.1, ev f p.2)) = qs)
    (_hc : collect (fun c => findCell (pl[·]?) zs c qs) 0 sz = some vs) (h0 : fillL (pl[·]?) zs qs = some vs) : Dtu P n f E H ⟨d, .build T ps.toArray, ty, pos, aft, g⟩ (.agg vs.toArray) := fun w0 s w a r => by
  have h := fillL_eq h0
  obtain ⟨zv, hc, hz⟩ := ht.zero
  obtain ⟨fs, h1, h2⟩ := hp
  subst hq
  have e : (execOp a.eval ⟨d, .build T ps.toArray, ty, pos, aft, g⟩).run P w = ((Instr.build T (ps.map fun p => (p.1, ev f p.2)).toArray).run P w).andThen fun v w' => .ok (.value v) w' := by
    simp [execOp, r.eval]
  rw [e]
  have h' : Instr.fill (fun x => pl.toArray[x]?) zs.toArray (ps.map fun p => (p.1, ev f p.2)) = some vs.toArray := by simpa using h
  simp only [Instr.build, Sem.run_bind, hz, hc, run_underlying h1, Result.andThen_ok, h2, h', Sem.run_pure]
theorem Dtu.buildArr {T e : TypeId} {len sz bytes esz : Nat} {zs : List Value} {ps : List (Nat × Operand)} {qs : List (Nat × Value)} {vs : List Value} (ht : Ty P T sz bytes zs) (hu : P.underlying T = some (.array len e)) (hs : ∀ w, (sizeOf e).run P w = .ok esz w) (hq : ps.map (fun p => (p.1, ev f p.2)) = qs)
    (_hc : collect (fun c => findCell (fun i => some (i * esz, esz)) zs c qs) 0 sz = some vs) (h0 : fillL (fun i => some (i * esz, esz)) zs qs = some vs) : Dtu P n f E H ⟨d, .build T ps.toArray, ty, pos, aft, g⟩ (.agg vs.toArray) := fun w0 s w a r => by
  have h := fillL_eq h0
  obtain ⟨zv, hc, hz⟩ := ht.zero
  subst hq
  have e : (execOp a.eval ⟨d, .build T ps.toArray, ty, pos, aft, g⟩).run P w = ((Instr.build T (ps.map fun p => (p.1, ev f p.2)).toArray).run P w).andThen fun v w' => .ok (.value v) w' := by
    simp [execOp, r.eval]
  rw [e]
  simp [Instr.build, hz, hc, run_underlying hu, hs, h]
/-- a slice put together: a new block -/
theorem Stp.buildSlice {T e : TypeId} {len sz bytes : Nat} {zs : List Value} {ps : List (Nat × Operand)} {qs : List (Nat × Value)} {vs : List Value} (hu : P.underlying T = some (.slice e)) (ht : Ty P e sz bytes zs) (h24 : len * sz ≤ 2 ^ 24) (h0 : len * sz ≠ 0) (hq : ps.map (fun p => (p.1, ev f p.2)) = qs)
    (_hc : collect (fun c => findCell (fun i => some (i * sz, sz)) (List.replicate len zs).flatten c qs) 0 (len * sz) = some vs) (h'' : fillL (fun i => some (i * sz, sz)) ((List.range (len * sz)).map (fun x => zs.toArray[x % zs.toArray.size]!)) qs = some vs) (k : ∀ b, K (.slice (some ⟨b, 0, none⟩) len len) (own b vs e :: H)) : Stp true P n f E H ⟨d, .buildSlice T len ps.toArray, ty, pos, aft, g⟩ K := fun w a r s => by
  have h' := fillL_eq h''
  have h : Instr.fill (fun i => some (i * sz, sz)) ((Array.range (len * sz)).map (zs.toArray[· % zs.toArray.size]!)) qs = some vs.toArray := by
    rw [← h', ← List.toArray_range, List.map_toArray]
  obtain ⟨zv, hc, hz⟩ := ht.zero
  obtain ⟨s2, x⟩ := s.alloc vs e
  subst hq
  have e1 : (execOp a.eval ⟨d, .buildSlice T len ps.toArray, ty, pos, aft, g⟩).run P w = ((Instr.buildSlice T len (ps.map fun p => (p.1, ev f p.2)).toArray).run P w).andThen fun v w' => .ok (.value v) w' := by
    simp [execOp, r.eval]
  have e2 : (execOp a.eval ⟨d, .buildSlice T len ps.toArray, ty, pos, aft, g⟩).run P w = .ok (.value (.slice (some ⟨w.heap.size, 0, none⟩) len len)) { w with heap := w.heap.push (.cells vs.toArray e (0, 0)) } := by
    rw [e1]
    have n24 : ¬ (2 ^ 24 < len * sz) := by omega
    simp only [Instr.buildSlice, Sem.run_bind, run_underlying hu, ht.size, Result.andThen_ok, gt_iff_lt, n24, if_false, h0, hz, hc, Sem.run_pure, h, newRow, run_newObj]
  unfold OpR; rw [e2]
  exact ⟨fun _ => x, _, k _, s2⟩
end
end Go.Sx
end
section
/- Slices: read, owned, made, grown, copied. A slice's value is never looked into: 'blkOf', 'offOf' name its place. -/
namespace Go.Sx
open Go

def blkOf : Value → Nat
  | .slice (some a) _ _ => a.block
  | _ => 0
def offOf : Value → Nat
  | .slice (some a) _ _ => a.off
  | _ => 0
def capOf : Value → Nat
  | .slice _ _ c => c
  | _ => 0

/-- in this world v is a slice of m elements of sz cells each, which are these -/
structure SlW (w : World) (sz : Nat) (v : Value) (m : Nat) (vs : List Value) : Prop where
  len : vs.length = m * sz
  max : m ≤ maxLen
  val : (m = 0 ∧ ∃ a c, v = .slice a 0 c ∧ c ≤ maxLen) ∨ ∃ cap, v = .slice (some ⟨blkOf v, offOf v, none⟩) m cap ∧ m ≤ cap ∧ cap ≤ maxLen ∧ ∀ j u, vs[j]? = some u → w.cell? ⟨blkOf v, offOf v + j, none⟩ = some u
def Sl (E : Env) (H : List HProp) (sz : Nat) (v : Value) (m : Nat) (vs : List Value) : Prop := ∀ w, St E H w → SlW w sz v m vs
theorem Sl.up {E : Env} {H : List HProp} {sz m : Nat} {v : Value} {vs : List Value} (h : Sl E [] sz v m vs) : Sl E H sz v m vs := fun w s => h w (by
  have := s.drop_tail (A := []) (H := H); exact this)
theorem St.le_env {E E' : Env} {w : World} (le : E.Le E') (s : St E' [] w) : St E [] w :=
  ⟨⟨Hp.emp, rfl, (Hp.emp_disj _).symm, Hp.emp_le _⟩, le.hp.trans s.keep, s.os.trans le.os, s.tape.trans le.tape, s.output.trans le.output⟩
theorem Sl.mono {E E' : Env} {sz m : Nat} {v : Value} {vs : List Value} (h : Sl E [] sz v m vs) (le : E.Le E') : Sl E' [] sz v m vs := fun w s => h w (s.le_env le)
theorem Sl.nil {E : Env} {H : List HProp} {sz : Nat} {a : Option Addr} : Sl E H sz (.slice a 0 0) 0 [] := fun _ _ => ⟨by simp, Nat.zero_le _, .inl ⟨rfl, a, 0, rfl, Nat.zero_le _⟩⟩
theorem Sl.ow {E : Env} {H : List HProp} (i : Nat) {b sz m c : Nat} {vs : List Value} {t : TypeId} (hi : H[i]? = some (own b vs t)) (hl : vs.length = m * sz) (hc : m ≤ c) (hm : c ≤ maxLen) : Sl E H sz (.slice (some ⟨b, 0, none⟩) m c) m vs := fun w s =>
  ⟨hl, Nat.le_trans hc hm, .inr ⟨c, rfl, hc, hm, fun j u hj => (Rds.owAll (E := E) i hi j u hj) w s⟩⟩

/-- an owned slice -/
def osl (t : TypeId) (sz : Nat) (v : Value) (m : Nat) (vs : List Value) : HProp := fun h =>
  (∃ a, v = .slice a 0 0 ∧ m = 0 ∧ vs = [] ∧ h = Hp.emp) ∨
  ∃ b cap rest, v = .slice (some ⟨b, 0, none⟩) m cap ∧ vs.length = m * sz ∧ m ≤ cap ∧ cap ≤ maxLen ∧ (vs ++ rest).length = cap * sz ∧ h = Hp.one b (.cells (vs ++ rest).toArray t (0, 0))

theorem osl_cases {E : Env} {H : List HProp} {t : TypeId} {sz m : Nat} {v : Value} {vs : List Value} {w : World} (s : St E (osl t sz v m vs :: H) w) :
    (∃ a, v = .slice a 0 0 ∧ m = 0 ∧ vs = [] ∧ St E H w) ∨
    ∃ b cap rest, v = .slice (some ⟨b, 0, none⟩) m cap ∧ vs.length = m * sz ∧ m ≤ cap ∧ cap ≤ maxLen ∧ (vs ++ rest).length = cap * sz ∧ St E (own b (vs ++ rest) t :: H) w := by
  obtain ⟨h, ⟨h1, h2, ho, s2, d, rfl⟩, dE, l⟩ := s.has
  rcases ho with ⟨a, e1, e2, e3, rfl⟩ | ⟨b, cap, rest, e1, e2, e3, e4, e5, rfl⟩
  · exact .inl ⟨a, e1, e2, e3, s.drop⟩
  · exact .inr ⟨b, cap, rest, e1, e2, e3, e4, e5, ⟨⟨_, ⟨_, h2, rfl, s2, d, rfl⟩, dE, l⟩, s.keep, s.os, s.tape, s.output⟩⟩
theorem osl_nil {E : Env} {H : List HProp} {t : TypeId} {sz : Nat} {a : Option Addr} {w : World} (s : St E H w) : St E (osl t sz (.slice a 0 0) 0 [] :: H) w := by
  obtain ⟨h, sh, dE, l⟩ := s.has
  exact ⟨⟨h, ⟨Hp.emp, h, .inl ⟨a, rfl, rfl, rfl, rfl⟩, sh, Hp.emp_disj _, rfl⟩, dE, l⟩, s.keep, s.os, s.tape, s.output⟩
theorem osl_own {E : Env} {H : List HProp} {t : TypeId} {sz m b cap : Nat} {vs rest : List Value} {w : World} (h1 : vs.length = m * sz) (h2 : m ≤ cap) (h3 : cap ≤ maxLen) (h4 : (vs ++ rest).length = cap * sz)
    (s : St E (own b (vs ++ rest) t :: H) w) : St E (osl t sz (.slice (some ⟨b, 0, none⟩) m cap) m vs :: H) w := by
  obtain ⟨h, ⟨g1, g2, rfl, s2, d, rfl⟩, dE, l⟩ := s.has
  exact ⟨⟨_, ⟨_, g2, .inr ⟨b, cap, rest, rfl, h1, h2, h3, h4, rfl⟩, s2, d, rfl⟩, dE, l⟩, s.keep, s.os, s.tape, s.output⟩

theorem slW_own {E : Env} {H : List HProp} {t : TypeId} {sz m b cap : Nat} {vs rest : List Value} {w : World} (h1 : vs.length = m * sz) (h2 : m ≤ cap) (h3 : cap ≤ maxLen) (s : St E (own b (vs ++ rest) t :: H) w) :
    SlW w sz (.slice (some ⟨b, 0, none⟩) m cap) m vs :=
  ⟨h1, Nat.le_trans h2 h3, .inr ⟨cap, rfl, h2, h3, fun j u hj => cell_of_heap s.block (by
    simp only [offOf, Nat.zero_add, List.getElem?_toArray]
    rw [List.getElem?_append_left (List.getElem?_eq_some_iff.1 hj).1]; exact hj)⟩⟩
theorem Sl.osl {E : Env} {H : List HProp} (i : Nat) {t : TypeId} {sz m : Nat} {v : Value} {vs : List Value} (hi : H[i]? = some (osl t sz v m vs)) : Sl E H sz v m vs := fun w s => by
  rcases osl_cases (s.get hi) with ⟨a, rfl, rfl, rfl, _⟩ | ⟨b, cap, rest, rfl, h1, h2, h3, h4, s2⟩
  · exact ⟨by simp, Nat.zero_le _, .inl ⟨rfl, a, 0, rfl, Nat.zero_le _⟩⟩
  · exact slW_own h1 h2 h3 s2
/-- an owned slice, where it stays -/
theorem Sl.at {E : Env} {t : TypeId} {sz m : Nat} {v : Value} {vs : List Value} (h : At (Sx.osl t sz v m vs) E) : Sl E [] sz v m vs := fun w s => by
  obtain ⟨x, hx, le⟩ := h
  rcases hx with ⟨a, rfl, rfl, rfl, _⟩ | ⟨b, cap, rest, rfl, h1, h2, h3, h4, rfl⟩
  · exact ⟨by simp, Nat.zero_le _, .inl ⟨rfl, a, 0, rfl, Nat.zero_le _⟩⟩
  · refine ⟨h1, Nat.le_trans h2 h3, .inr ⟨cap, rfl, h2, h3, fun j u hj => ?_⟩⟩
    have hb : w.heap[b]? = some (.cells (vs ++ rest).toArray t (0, 0)) := s.keep b _ (le b _ (by simp [Hp.one]))
    refine cell_of_heap hb ?_
    simp only [offOf, Nat.zero_add, List.getElem?_toArray]
    rw [List.getElem?_append_left (List.getElem?_eq_some_iff.1 hj).1]; exact hj
theorem own_at {E : Env} {b : Nat} {vs : List Value} {t : TypeId} (h : At (own b vs t) E) {off : Nat} {v : Value} (hv : vs[off]? = some v) : Cell E b off v := by
  obtain ⟨x, rfl, le⟩ := h
  exact ⟨_, _, _, le b _ (by simp [Hp.one]; exact ⟨rfl, rfl, rfl⟩), by simpa using hv⟩

theorem Rd.sl {E : Env} {H : List HProp} {sz m : Nat} {v : Value} {vs : List Value} (h : Sl E H sz v m vs) {j : Nat} {u : Value} (hj : vs[j]? = some u) : Rd E H (blkOf v) (offOf v + j) u := fun w s => by
  have k := h w s
  rcases k.val with ⟨rfl, _⟩ | ⟨cap, _, _, _, hc⟩
  · have : vs = [] := List.eq_nil_of_length_eq_zero (by simpa using k.len)
    subst this; simp at hj
  · exact hc j u hj
theorem Rds.sl {E : Env} {H : List HProp} {sz m : Nat} {v : Value} {vs us : List Value} (h : Sl E H sz v m vs) {p k : Nat} (hu : (vs.drop p).take k = us) : Rds E H (blkOf v) (offOf v + p) us := fun j u hj => by
  subst hu
  rw [Nat.add_assoc]
  refine Rd.sl h ?_
  rw [List.getElem?_take] at hj
  split at hj
  · rw [List.getElem?_drop] at hj; exact hj
  · cases hj

section
variable {P : Program} {n : Nat} {f : Fr} {E : Env} {H : List HProp} {d : Option Nat} {ty : TypeId} {pos : String} {aft : Array Edge} {g : Option (Nat × Bool)} {x y z : Operand} {K : Value → List HProp → Prop}
theorem Dtu.lenS {t e : TypeId} {sz m : Nat} {v : Value} {vs : List Value} (ht : P.underlying t = some (.slice e)) (h : Sl E H sz v m vs) (hx : ev f x = v) :
    Dtu P n f E H ⟨d, .call { callee := .builtin .len, args := #[x], argTypes := #[t] }, ty, pos, aft, g⟩ (.int .i64 m) := fun w0 s w a' r => by
  rcases (h w0 s).val with ⟨rfl, a, c, rfl, _⟩ | ⟨cap, e, _⟩
  · exact Dtu.len ht hx w0 s w a' r
  · exact Dtu.len ht (hx.trans e) w0 s w a' r
theorem Dtu.ix {t e : TypeId} {sz m i : Nat} {v : Value} {vs : List Value} {kk : IntKind} {iv : Int} (ht : P.underlying t = some (.slice e)) (hz : ∀ w, (sizeOf e).run P w = .ok sz w) (h : Sl E H sz v m vs) (hx : ev f x = v) (hy : ev f y = .int kk iv)
    (hi : iv = (i : Int)) (hlt : i < m) : Dtu P n f E H ⟨d, .indexAddr t x y, ty, pos, aft, g⟩ (.pointer (some ⟨blkOf v, offOf v + i * sz, none⟩)) := fun w0 s w a' r => by
  rcases (h w0 s).val with ⟨rfl, _⟩ | ⟨cap, e, _⟩
  · omega
  · exact Dtu.ixs ht hz (hx.trans e) hy hi hlt w0 s w a' r
/-- v[lo:hi], v[lo:hi:mx] -/
def subSl (v : Value) (sz lo hi mx : Nat) : Value := match v with
  | .slice a _ _ => .slice (if mx = lo then a else a.map (·.add (lo * sz))) (hi - lo) (mx - lo)
  | _ => v
theorem subSl_slW {w : World} {sz m : Nat} {v : Value} {vs : List Value} (h : SlW w sz v m vs) {lo hi mx : Nat} (h1 : lo ≤ hi) (h2 : hi ≤ m) (h3 : hi ≤ mx) (h4 : mx ≤ capOf v) : SlW w sz (subSl v sz lo hi mx) (hi - lo) ((vs.drop (lo * sz)).take ((hi - lo) * sz)) := by
  have hlen : ((vs.drop (lo * sz)).take ((hi - lo) * sz)).length = (hi - lo) * sz := by
    have e : m * sz = lo * sz + (hi - lo) * sz + (m - hi) * sz := by rw [← Nat.add_mul, ← Nat.add_mul]; congr 1; omega
    simp only [List.length_take, List.length_drop, h.len]; omega
  rcases h.val with ⟨hm, a, c, hv, hcm⟩ | ⟨cap, hv, hc, hcm, hcell⟩
  · subst hm
    obtain rfl : lo = 0 := by omega
    obtain rfl : hi = 0 := by omega
    subst hv
    refine ⟨hlen, Nat.zero_le _, .inl ⟨rfl, ?_⟩⟩
    simp only [subSl, capOf] at *
    exact ⟨_, _, rfl, by omega⟩
  · have hmx := h.max
    generalize blkOf v = b at *
    generalize offOf v = o at *
    subst hv
    simp only [capOf] at h4
    refine ⟨hlen, by omega, ?_⟩
    by_cases hz : hi - lo = 0
    · exact .inl ⟨hz, (if mx = lo then some ⟨b, o, none⟩ else (some (⟨b, o, none⟩ : Addr)).map (·.add (lo * sz))), mx - lo, by simp only [subSl, hz], by omega⟩
    · have hne : ¬ mx = lo := by omega
      have e : subSl (.slice (some ⟨b, o, none⟩) m cap) sz lo hi mx = .slice (some ⟨b, o + lo * sz, none⟩) (hi - lo) (mx - lo) := by
        simp only [subSl, hne, if_false, Option.map_some, addr_add]
      rw [e]
      refine .inr ⟨mx - lo, rfl, by omega, by omega, fun j u hj => ?_⟩
      simp only [blkOf, offOf]
      rw [List.getElem?_take] at hj
      split at hj
      · rw [List.getElem?_drop] at hj; rw [Nat.add_assoc]; exact hcell _ _ hj
      · cases hj
theorem SlW.cap {w : World} {sz m : Nat} {v : Value} {vs : List Value} (h : SlW w sz v m vs) : m ≤ capOf v ∧ capOf v ≤ maxLen ∧ ∃ a, v = .slice a m (capOf v) := by
  rcases h.val with ⟨rfl, a, c, rfl, hc⟩ | ⟨cap, e, hc, hcm, _⟩
  · exact ⟨Nat.zero_le _, hc, a, rfl⟩
  · rw [e]; exact ⟨hc, hcm, _, rfl⟩
theorem Sl.sub {sz m : Nat} {v : Value} {vs : List Value} (h : Sl E H sz v m vs) (lo hi mx : Nat) (h1 : lo ≤ hi) (h2 : hi ≤ m) (h3 : hi ≤ mx) (h4 : mx ≤ capOf v) {us : List Value} (hu : (vs.drop (lo * sz)).take ((hi - lo) * sz) = us) :
    Sl E H sz (subSl v sz lo hi mx) (hi - lo) us := fun w s => hu ▸ subSl_slW (h w s) h1 h2 h3 h4
/-- with no third bound -/
theorem Sl.sub' {sz m : Nat} {v : Value} {vs : List Value} (h : Sl E H sz v m vs) (lo hi : Nat) (h1 : lo ≤ hi) (h2 : hi ≤ m) {us : List Value} (hu : (vs.drop (lo * sz)).take ((hi - lo) * sz) = us) :
    Sl E H sz (subSl v sz lo hi (capOf v)) (hi - lo) us := fun w s => hu ▸ subSl_slW (h w s) h1 h2 (Nat.le_trans h2 (h w s).cap.1) (Nat.le_refl _)
theorem Dtu.slc {t e : TypeId} {sz m : Nat} {v : Value} {vs : List Value} {lo hi : Option Operand} {l h : Nat} (ht : P.underlying t = some (.slice e)) (hz : ∀ w, (sizeOf e).run P w = .ok sz w) (hs : Sl E H sz v m vs) (hx : ev f x = v)
    (hlo : match lo with | none => l = 0 | some o => ∃ k, ev f o = .int k (l : Int)) (hhi : match hi with | none => h = m | some o => ∃ k, ev f o = .int k (h : Int)) (h1 : l ≤ h) (h2 : h ≤ m) :
    Dtu P n f E H ⟨d, .slice t x lo hi none, ty, pos, aft, g⟩ (subSl v sz l h (capOf v)) := fun w0 s w a' r => by
  obtain ⟨c1, c2, a, hv⟩ := (hs w0 s).cap
  generalize capOf v = c at *
  subst hv
  have b1 : ∀ (k : IntKind) (y : Nat) (code : BoundsCode), l ≤ y → (Instr.sliceBound (.int k (l : Int)) y code).run P w = .ok l w := fun k y code hy => by
    rw [run_sliceBound _ _ _ _ _ (by omega) (by omega)]; simp
  have b2 : ∀ (k : IntKind) (y : Nat) (code : BoundsCode), h ≤ y → (Instr.sliceBound (.int k (h : Int)) y code).run P w = .ok h w := fun k y code hy => by
    rw [run_sliceBound _ _ _ _ _ (by omega) (by omega)]; simp
  have e : (Instr.sliceBounds true m c (lo.map (ev f)) (hi.map (ev f)) none).run P w = .ok (l, h, c) w := by
    cases lo with
    | none =>
      simp only at hlo
      subst hlo
      cases hi with
      | none => simp only at hhi; subst hhi; simp [Instr.sliceBounds]
      | some o =>
        obtain ⟨k, hk⟩ := hhi
        simp only [Instr.sliceBounds, Option.map_none, Option.map_some, hk, Sem.run_bind, Sem.run_pure, Result.andThen_ok, b2 k c _ (Nat.le_trans h2 c1)]
    | some o' =>
      obtain ⟨k', hk'⟩ := hlo
      cases hi with
      | none => simp only at hhi; subst hhi; simp only [Instr.sliceBounds, Option.map_none, Option.map_some, hk', Sem.run_bind, Sem.run_pure, Result.andThen_ok, b1 k' h _ h1]
      | some o =>
        obtain ⟨k, hk⟩ := hhi
        simp only [Instr.sliceBounds, Option.map_some, hk, hk', Sem.run_bind, Sem.run_pure, Result.andThen_ok, b2 k c _ (Nat.le_trans h2 c1), b1 k' h _ h1]
  simp only [execOp, r.eval, hx, Option.map_none, Instr.sliceAt, Sem.run_bind, run_underlying ht, Result.andThen_ok, Instr.slice, e, hz, Sem.run_pure, subSl]
/-- with a third bound -/
theorem Dtu.slc3 {t e : TypeId} {sz m : Nat} {v : Value} {vs : List Value} {lo hi mx : Operand} {k1 k2 k3 : IntKind} {l h c3 : Nat} (ht : P.underlying t = some (.slice e)) (hz : ∀ w, (sizeOf e).run P w = .ok sz w) (hs : Sl E H sz v m vs) (hx : ev f x = v)
    (hlo : ev f lo = .int k1 (l : Int)) (hhi : ev f hi = .int k2 (h : Int)) (hmx : ev f mx = .int k3 (c3 : Int)) (h1 : l ≤ h) (h2 : h ≤ c3) (h3 : c3 ≤ m) :
    Dtu P n f E H ⟨d, .slice t x (some lo) (some hi) (some mx), ty, pos, aft, g⟩ (subSl v sz l h c3) := fun w0 s w a' r => by
  obtain ⟨c1, c2, a, hv⟩ := (hs w0 s).cap
  generalize capOf v = c at *
  subst hv
  have e : (Instr.sliceBounds true m c (some (.int k1 (l : Int))) (some (.int k2 (h : Int))) (some (.int k3 (c3 : Int)))).run P w = .ok (l, h, c3) w := by
    simp only [Instr.sliceBounds, Sem.run_bind, Sem.run_pure]
    rw [run_sliceBound _ _ _ _ _ (by omega) (by omega)]
    simp only [Result.andThen_ok]
    rw [run_sliceBound _ _ _ _ _ (by omega) (by omega)]
    simp only [Result.andThen_ok]
    rw [run_sliceBound _ _ _ _ _ (by omega) (by omega)]
    simp
  simp only [execOp, r.eval, hx, hlo, hhi, hmx, Option.map_some, Instr.sliceAt, Sem.run_bind, run_underlying ht, Result.andThen_ok, Instr.slice, e, hz, Sem.run_pure, subSl]
theorem Dtu.slc3' {t e : TypeId} {sz m : Nat} {v : Value} {vs : List Value} {hi mx : Operand} {k2 k3 : IntKind} {h c3 : Nat} (ht : P.underlying t = some (.slice e)) (hz : ∀ w, (sizeOf e).run P w = .ok sz w) (hs : Sl E H sz v m vs) (hx : ev f x = v)
    (hhi : ev f hi = .int k2 (h : Int)) (hmx : ev f mx = .int k3 (c3 : Int)) (h2 : h ≤ c3) (h3 : c3 ≤ m) :
    Dtu P n f E H ⟨d, .slice t x none (some hi) (some mx), ty, pos, aft, g⟩ (subSl v sz 0 h c3) := fun w0 s w a' r => by
  obtain ⟨c1, c2, a, hv⟩ := (hs w0 s).cap
  generalize capOf v = c at *
  subst hv
  have e : (Instr.sliceBounds true m c none (some (.int k2 (h : Int))) (some (.int k3 (c3 : Int)))).run P w = .ok (0, h, c3) w := by
    simp only [Instr.sliceBounds, Sem.run_bind, Sem.run_pure, Result.andThen_ok]
    rw [run_sliceBound _ _ _ _ _ (by omega) (by omega)]
    simp only [Result.andThen_ok]
    rw [run_sliceBound _ _ _ _ _ (by omega) (by omega)]
    simp
  simp only [execOp, r.eval, hx, hhi, hmx, Option.map_some, Option.map_none, Instr.sliceAt, Sem.run_bind, run_underlying ht, Result.andThen_ok, Instr.slice, e, hz, Sem.run_pure, subSl]

/-! ### a store into an owned slice -/
theorem Stp.storeS (i : Nat) {T t : TypeId} {sz m p : Nat} {v u : Value} {vs us : List Value} (hm : ∀ w, (sizeOf T).run P w = .ok us.length w) (hi : H[i]? = some (osl t sz v m vs)) (hx : ev f x = .pointer (some ⟨blkOf v, offOf v + p, none⟩)) (hy : ev f y = u) (hv : u.cells = us.toArray)
    (hl : p + us.length ≤ vs.length) (hpos : 0 < us.length) (h1 : us.all (·.oneCell') = true) (k : K undef (H.set i (osl t sz v m (vs.take p ++ us ++ vs.drop (p + us.length))))) : Stp false P n f E H ⟨d, .store T x y, ty, pos, aft, g⟩ K := fun w a r s => by
  rcases osl_cases (s.get hi) with ⟨a, rfl, rfl, rfl, _⟩ | ⟨b, cap, rest, rfl, g1, g2, g3, g4, s2⟩
  · simp only [List.length_nil] at hl; omega
  · have := (Stp.store (P := P) (n := n) (f := f) (E := E) (d := d) (ty := ty) (pos := pos) (aft := aft) (g := g) (H := own b (vs ++ rest) t :: H.eraseIdx i) (K := fun v H' => v = undef ∧ H' = own b (((vs ++ rest).take p) ++ us ++ (vs ++ rest).drop (p + us.length)) t :: H.eraseIdx i) 0 (off := p) hm (by rw [hx]; simp [blkOf, offOf]) hy hv rfl rfl (Nat.ble_eq_true_of_le (by simp; omega)) h1 (forceL_some _) rfl ⟨rfl, rfl⟩) w a r s2
    refine this.mono ?_
    rintro v' w' ⟨_, H', ⟨rfl, rfl⟩, s'⟩
    have e : ((vs ++ rest).take p) ++ us ++ (vs ++ rest).drop (p + us.length) = (vs.take p ++ us ++ vs.drop (p + us.length)) ++ rest := by
      rw [List.take_append_of_le_length (by omega), List.drop_append_of_le_length (by omega)]; simp only [List.append_assoc]
    rw [e] at s'
    have hlen : (vs.take p ++ us ++ vs.drop (p + us.length)).length = vs.length := by simp; omega
    exact ⟨fun e => (by cases e), _, k, St.put hi (osl_own (by rw [hlen]; exact g1) g2 g3 (by rw [List.length_append, hlen, ← List.length_append]; exact g4) s')⟩
end
end Go.Sx
end
section
/- Slices that are made, grown and copied. -/
namespace Go.Sx
open Go

theorem one_all {us : List Value} (h : us.all (·.oneCell') = true) : ∀ u ∈ us, u.oneCell' = true := fun u hu => List.all_eq_true.1 h u hu

theorem St.draw {E : Env} {H : List HProp} {w : World} (s : St E H w) : St E H w.drew := s.ext ⟨Hp.Le.refl _, rfl, rfl, rfl⟩
theorem St.allocA {E : Env} {H : List HProp} {w : World} (s : St E H w) (c : Array Value) (t : TypeId) : St E (own w.heap.size c.toList t :: H) (w.alloc (.cells c t)) ∧ Ext w (w.alloc (.cells c t)) := by
  have := s.alloc c.toList t
  simpa using this
theorem St.grow {E : Env} {H : List HProp} {w : World} (s : St E H w) (c : Array Value) (t : TypeId) : St E (own w.heap.size c.toList t :: H) (w.drew.alloc (.cells c t)) ∧ Ext w (w.drew.alloc (.cells c t)) :=
  ⟨(s.draw.allocA c t).1, Ext.trans (b := w.drew) ⟨Hp.Le.refl _, rfl, rfl, rfl⟩ (s.draw.allocA c t).2⟩

theorem madeCells_list {zs : List Value} {sz : Nat} (hz : zs.length = sz) : ∀ m, (madeCells zs.toArray (m * sz)).toList = (List.replicate m zs).flatten
  | 0 => by simp [madeCells]
  | m + 1 => by
    have ih := madeCells_list hz m
    subst hz
    generalize hn : zs.length = sz at *
    unfold madeCells at ih ⊢
    simp only [Array.toList_map, Array.toList_range, List.size_toArray, hn] at ih ⊢
    rw [show (m + 1) * sz = sz + m * sz by rw [Nat.succ_mul, Nat.add_comm], List.range_add, List.map_append, List.map_map, List.replicate_succ, List.flatten_cons]
    congr 1
    · apply List.ext_getElem?
      intro j
      rw [List.getElem?_map]
      by_cases hj : j < sz
      · rw [List.getElem?_range hj, List.getElem?_eq_getElem (by omega)]
        have hj' : j < zs.length := by omega
        simp [Nat.mod_eq_of_lt hj, List.getElem?_eq_getElem hj']
      · rw [List.getElem?_eq_none (by simp; omega), List.getElem?_eq_none (by omega)]; rfl
    · rw [← ih]
      apply List.map_congr_left
      intro j _
      simp [Nat.add_mod_left]

/-- what append does to an owned slice, or to one of no room, that grows -/
theorem run_append_osl {P : Program} {t e : TypeId} {ty : TypeId} {sz bytes : Nat} {z : List Value} {E : Env} {H : List HProp} {w : World} {v x : Value} {m k : Nat} {vs ys : List Value}
    (ht : P.underlying t = some (.slice e)) (hT : Ty P e sz bytes z) (hz : z.length = sz) (s : St E (osl e sz v m vs :: H) w) (hsrc : SlW w sz x k ys) (h1 : ys.all (·.oneCell') = true) (hb : (m + k) * bytes ≤ 140737488355328) (h63 : m + k ≤ maxLen) :
    ∃ v' w', (Builtin.append_ #[t, t] ty #[v, x]).run P w = .ok v' w' ∧ St E (osl e sz v' (m + k) (vs ++ ys) :: H) w' := by
  obtain ⟨i, zv, hi, hisz, hiby, hiz, hzc⟩ := hT.info
  have hzs : zv.cells.size = sz := by rw [hzc]; simpa using hz
  have hml : maxLen = 9223372036854775807 := by unfold maxLen; rfl
  rcases hsrc.val with ⟨rfl, a, c, rfl, _⟩ | ⟨cap', hx, hc1, hc2, hcell⟩
  · -- nothing is appended
    have hys : ys = [] := List.eq_nil_of_length_eq_zero (by simpa using hsrc.len)
    subst hys
    have hf : ∀ w, (Builtin.firstCells sz 0 (.slice a 0 c)).run P w = .ok #[] w := fun w => by
      cases a <;> simp [Builtin.firstCells, loadCells, loadCellsFrom]
    rcases osl_cases s with ⟨b, rfl, rfl, rfl, s2⟩ | ⟨b, cap, rest, rfl, g1, g2, g3, g4, s2⟩
    · refine ⟨.slice b 0 0, w, ?_, by simpa using osl_nil s2⟩
      have hst : ∀ (o : Option Addr), (do if let some a := o then storeCells (a.add (0 * sz)) [] : Sem Unit).run P w = .ok () w := fun o => by cases o <;> rfl
      cases b <;> simp [Builtin.append_, run_underlying ht, hT.size, Builtin.lenOf, hf, storeCells]
    · refine ⟨.slice (some ⟨b, 0, none⟩) m cap, w, ?_, by simpa using s⟩
      simp [Builtin.append_, run_underlying ht, hT.size, Builtin.lenOf, hf, storeCells, g2]
  · generalize blkOf x = xb at *
    generalize offOf x = xo at *
    subst hx
    have hnews : ∀ j u, ys[j]? = some u → w.cell? ((⟨xb, xo, none⟩ : Addr).add j) = some u := fun j u hj => by rw [addr_add]; exact hcell j u hj
    have hl : ys.length = k * i.size := by rw [hisz]; exact hsrc.len
    rcases osl_cases s with ⟨b, rfl, rfl, rfl, s2⟩ | ⟨b, cap, rest, rfl, g1, g2, g3, g4, s2⟩
    · by_cases hk : k = 0
      · subst hk
        have hys : ys = [] := List.eq_nil_of_length_eq_zero (by simpa using hsrc.len)
        subst hys
        refine ⟨.slice b 0 0, w, ?_, by simpa using osl_nil s2⟩
        cases b <;> simp [Builtin.append_, run_underlying ht, hT.size, Builtin.lenOf, Builtin.firstCells, loadCells, loadCellsFrom, storeCells]
      · have hfits : Builtin.nextslicecap (0 + k) 0 * i.bytes ≤ 281474976710656 := growslice_fits (by omega) (by rw [hiby]; exact hb)
        have hge := grownCap_ge w (0 + k) 0 e
        have hcm : grownCap w (0 + k) 0 e ≤ maxLen := grownCap_le_maxLen w (0 + k) 0 e h63
        have hrun : (Builtin.append_ #[t, t] ty #[.slice b 0 0, .slice (some ⟨xb, xo, none⟩) k cap']).run P w =
            .ok (.slice (some ⟨w.heap.size, 0, none⟩) (0 + k) (grownCap w (0 + k) 0 e)) (w.drew.alloc (.cells ((([] : List Value).toArray ++ ys.toArray ++ Builtin.zeroCells zv.cells (grownCap w (0 + k) 0 e - (0 + k)))) e)) := by
          cases b with
          | none =>
            have := run_append_nil (P := P) w t ty e i zv ht hi hiz ⟨xb, xo, none⟩ k cap' ys hl hnews (by omega) (by omega) (by rw [hiby]; simp at hb; omega)
            simpa using this
          | some b => exact run_append_grow (P := P) w t ty e i zv ht hi hiz b 0 0 [] (by simp) (by simp) ⟨xb, xo, none⟩ k cap' ys hl hnews (by omega) (by omega) hfits
        refine ⟨_, _, hrun, ?_⟩
        obtain ⟨s3, _⟩ := s2.grow (([] : List Value).toArray ++ ys.toArray ++ Builtin.zeroCells zv.cells (grownCap w (0 + k) 0 e - (0 + k))) e
        have e1 : (([] : List Value).toArray ++ ys.toArray ++ Builtin.zeroCells zv.cells (grownCap w (0 + k) 0 e - (0 + k))).toList = ([] ++ ys) ++ (Builtin.zeroCells zv.cells (grownCap w (0 + k) 0 e - (0 + k))).toList := by simp
        rw [e1] at s3
        exact osl_own (by simpa using hsrc.len) hge hcm (by
          simp only [List.nil_append, List.length_append, Array.length_toList, size_zeroCells, hzs, hsrc.len, ← Nat.add_mul]; congr 1; omega) s3
    · by_cases hroom : m + k ≤ cap
      · have hfit : m * i.size + ys.length ≤ (vs ++ rest).toArray.size := by
          simp only [List.size_toArray]
          rw [g4, hisz, hsrc.len, ← Nat.add_mul]; exact Nat.mul_le_mul_right _ hroom
        have hr := run_append_room (P := P) w t ty e i ht hi b m cap (vs ++ rest).toArray s2.block ⟨xb, xo, none⟩ k cap' ys hl hnews (one_all h1) hroom hfit
        refine ⟨_, _, hr, ?_⟩
        have hvs : m * i.size = vs.length := by rw [hisz, g1]
        have e1 : (vs ++ rest).toArray.toList.take (m * i.size) ++ ys ++ (vs ++ rest).toArray.toList.drop (m * i.size + ys.length) = (vs ++ ys) ++ rest.drop ys.length := by
          rw [hvs]; simp only [List.take_left]; rw [List.drop_append]; simp
        rw [e1]
        have s3 := setRow_write (vs' := (vs ++ ys) ++ rest.drop ys.length) s2
        have hrest : ys.length ≤ rest.length := by
          simp only [List.size_toArray, List.length_append] at hfit; rw [hvs] at hfit; omega
        exact osl_own (by rw [List.length_append, g1, hsrc.len, Nat.add_mul]) hroom g3 (by
          rw [← g4]; simp only [List.length_append, List.length_drop]; omega) s3
      · have hold : ∀ j u, vs[j]? = some u → w.cell? ((⟨b, 0, none⟩ : Addr).add j) = some u := fun j u hj => by
          rw [addr_add, Nat.zero_add]
          refine cell_of_heap s2.block ?_
          rw [List.getElem?_toArray, List.getElem?_append_left (List.getElem?_eq_some_iff.1 hj).1]; exact hj
        have hfits : Builtin.nextslicecap (m + k) cap * i.bytes ≤ 281474976710656 := growslice_fits (by omega) (by rw [hiby]; exact hb)
        have hr := run_append_grow (P := P) w t ty e i zv ht hi hiz ⟨b, 0, none⟩ m cap vs (by rw [hisz]; exact g1) hold ⟨xb, xo, none⟩ k cap' ys hl hnews (by omega) (by omega) hfits
        have hge := grownCap_ge w (m + k) cap e
        have hcm : grownCap w (m + k) cap e ≤ maxLen := grownCap_le_maxLen w (m + k) cap e h63
        refine ⟨_, _, hr, ?_⟩
        obtain ⟨s3, _⟩ := s2.drop.grow (vs.toArray ++ ys.toArray ++ Builtin.zeroCells zv.cells (grownCap w (m + k) cap e - (m + k))) e
        have e1 : (vs.toArray ++ ys.toArray ++ Builtin.zeroCells zv.cells (grownCap w (m + k) cap e - (m + k))).toList = (vs ++ ys) ++ (Builtin.zeroCells zv.cells (grownCap w (m + k) cap e - (m + k))).toList := by simp
        rw [e1] at s3
        exact osl_own (by rw [List.length_append, g1, hsrc.len, Nat.add_mul]) hge hcm (by
          simp only [List.length_append, Array.length_toList, size_zeroCells, hzs, g1, hsrc.len, ← Nat.add_mul]; congr 1; omega) s3

section
variable {P : Program} {n : Nat} {f : Fr} {E : Env} {H : List HProp} {d : Option Nat} {ty : TypeId} {pos : String} {aft : Array Edge} {g : Option (Nat × Bool)} {x y z : Operand} {K : Value → List HProp → Prop}

theorem Body.addNil {c : Code} {K : Kont} (t : TypeId) (sz : Nat) (a : Option Addr) (h : Body P n c f E (osl t sz (.slice a 0 0) 0 [] :: H) K) : Body P n c f E H K := Body.conseq (fun _ s => osl_nil s) h
theorem Ops.addNil {all : Array Oper} {l : List Oper} {K : Kont} (t : TypeId) (sz : Nat) (a : Option Addr) (h : Ops P n all l f E (osl t sz (.slice a 0 0) 0 [] :: H) K) : Ops P n all l f E H K := fun w a r d s => h w a r d (osl_nil s)
theorem Stp.addNil {q : Bool} {o : Oper} (t : TypeId) (sz : Nat) (a : Option Addr) (h : Stp q P n f E (osl t sz (.slice a 0 0) 0 [] :: H) o K) : Stp q P n f E H o K := fun w a r s => h w a r (osl_nil s)

theorem run_append_op {t : TypeId} {a : Act} (r : Rel n f a.tmps) {u v : Value} (hx : ev f x = u) (hy : ev f y = v) (w : World) :
    (execOp a.eval ⟨d, .call { callee := .builtin .append, args := #[x, y], argTypes := #[t, t] }, ty, pos, aft, g⟩).run P w = ((Builtin.append_ #[t, t] ty #[u, v]).run P w).andThen fun v w' => .ok (.value v) w' := by
  simp [execOp, r.eval, hx, hy, resolve, invoke, builtin]
/-- append to an owned slice -/
theorem Stp.append (i : Nat) {t e : TypeId} {sz bytes m k : Nat} {v u : Value} {vs ys zs : List Value} (ht : P.underlying t = some (.slice e)) (hT : Ty P e sz bytes zs) (hz : zs.length = sz) (hi : H[i]? = some (osl e sz v m vs)) (hx : ev f x = v) (hy : ev f y = u)
    (hs : Sl E H sz u k ys) (h1 : ys.all (·.oneCell') = true) (hb : (m + k) * bytes ≤ 140737488355328) (h63 : m + k ≤ 9223372036854775807) (k' : ∀ v', K v' (H.set i (osl e sz v' (m + k) (vs ++ ys)))) :
    Stp false P n f E H ⟨d, .call { callee := .builtin .append, args := #[x, y], argTypes := #[t, t] }, ty, pos, aft, g⟩ K := fun w a r s => by
  obtain ⟨v', w', hr, s'⟩ := run_append_osl (ty := ty) ht hT hz (s.get hi) (hs w s) h1 hb (by unfold maxLen; exact h63)
  unfold OpR
  rw [run_append_op r hx hy w, hr]
  exact ⟨fun e => (by cases e), _, k' v', St.put hi s'⟩
/-- append to a slice of no room: a new one -/
theorem Stp.appendNew {t e : TypeId} {sz bytes k : Nat} {b : Option Addr} {u : Value} {ys zs : List Value} (ht : P.underlying t = some (.slice e)) (hT : Ty P e sz bytes zs) (hz : zs.length = sz) (hx : ev f x = .slice b 0 0) (hy : ev f y = u)
    (hs : Sl E H sz u k ys) (h1 : ys.all (·.oneCell') = true) (hb : k * bytes ≤ 140737488355328) (h63 : k ≤ 9223372036854775807) (k' : ∀ v', K v' (osl e sz v' k ys :: H)) :
    Stp false P n f E H ⟨d, .call { callee := .builtin .append, args := #[x, y], argTypes := #[t, t] }, ty, pos, aft, g⟩ K := fun w a r s => by
  obtain ⟨v', w', hr, s'⟩ := run_append_osl (ty := ty) ht hT hz (osl_nil (t := e) (sz := sz) (a := b) s) (hs w s) h1 (by simpa using hb) (by unfold maxLen; omega)
  unfold OpR
  rw [run_append_op r hx hy w, hr]
  simp only [Nat.zero_add, List.nil_append] at s'
  exact ⟨fun e => (by cases e), _, k' v', s'⟩
/-- append to a slice that has no room left, and is not written: a new one -/
theorem Stp.appendFull {t e : TypeId} {sz bytes m k : Nat} {v u : Value} {vs ys zs : List Value} (ht : P.underlying t = some (.slice e)) (hT : Ty P e sz bytes zs) (hz : zs.length = sz) (hx : ev f x = v) (hy : ev f y = u)
    (hv : Sl E H sz v m vs) (hcap : capOf v = m) (hs : Sl E H sz u k ys) (hk : 0 < k) (hb : (m + k) * bytes ≤ 140737488355328) (h63 : m + k ≤ 9223372036854775807) (k' : ∀ v', K v' (osl e sz v' (m + k) (vs ++ ys) :: H)) :
    Stp true P n f E H ⟨d, .call { callee := .builtin .append, args := #[x, y], argTypes := #[t, t] }, ty, pos, aft, g⟩ K := fun w a r s => by
  obtain ⟨i, zv, hi, hisz, hiby, hiz, hzc⟩ := hT.info
  have hzs : zv.cells.size = sz := by rw [hzc]; simpa using hz
  have hsrc := hs w s
  have hbase := hv w s
  have hml : maxLen = 9223372036854775807 := by unfold maxLen; rfl
  rcases hsrc.val with ⟨rfl, _⟩ | ⟨cap', hux, hc1, hc2, hcell⟩
  · omega
  have hnews : ∀ j q, ys[j]? = some q → w.cell? ((⟨blkOf u, offOf u, none⟩ : Addr).add j) = some q := fun j q hj => by rw [addr_add]; exact hcell j q hj
  have hl : ys.length = k * i.size := by rw [hisz]; exact hsrc.len
  have hfits : Builtin.nextslicecap (m + k) m * i.bytes ≤ 281474976710656 := growslice_fits (by omega) (by rw [hiby]; exact hb)
  have hge := grownCap_ge w (m + k) m e
  have hcm : grownCap w (m + k) m e ≤ maxLen := grownCap_le_maxLen w (m + k) m e (by omega)
  have hrun : (Builtin.append_ #[t, t] ty #[v, u]).run P w = .ok (.slice (some ⟨w.heap.size, 0, none⟩) (m + k) (grownCap w (m + k) m e)) (w.drew.alloc (.cells (vs.toArray ++ ys.toArray ++ Builtin.zeroCells zv.cells (grownCap w (m + k) m e - (m + k))) e)) := by
    rcases hbase.val with ⟨rfl, a, c, hva, _⟩ | ⟨cap, hva, hc3, hc4, hcell2⟩
    · have hvs : vs = [] := List.eq_nil_of_length_eq_zero (by simpa using hbase.len)
      subst hvs
      rw [hva] at hcap
      simp only [capOf] at hcap
      subst hcap
      rw [hva, hux]
      cases a with
      | none =>
        have := run_append_nil (P := P) w t ty e i zv ht hi hiz ⟨blkOf u, offOf u, none⟩ k cap' ys hl hnews (by omega) (by omega) (by rw [hiby]; simp at hb; omega)
        simpa using this
      | some b => exact run_append_grow (P := P) w t ty e i zv ht hi hiz b 0 0 [] (by simp) (by simp) ⟨blkOf u, offOf u, none⟩ k cap' ys hl hnews (by omega) (by omega) hfits
    · have hcap2 : cap = m := by rw [hva] at hcap; exact hcap
      have hold : ∀ j q, vs[j]? = some q → w.cell? ((⟨blkOf v, offOf v, none⟩ : Addr).add j) = some q := fun j q hj => by rw [addr_add]; exact hcell2 j q hj
      rw [hva, hux, hcap2]
      exact run_append_grow (P := P) w t ty e i zv ht hi hiz ⟨blkOf v, offOf v, none⟩ m m vs (by rw [hisz]; exact hbase.len) hold ⟨blkOf u, offOf u, none⟩ k cap' ys hl hnews (by omega) (by omega) hfits
  obtain ⟨s3, x3⟩ := s.grow (vs.toArray ++ ys.toArray ++ Builtin.zeroCells zv.cells (grownCap w (m + k) m e - (m + k))) e
  have e1 : (vs.toArray ++ ys.toArray ++ Builtin.zeroCells zv.cells (grownCap w (m + k) m e - (m + k))).toList = (vs ++ ys) ++ (Builtin.zeroCells zv.cells (grownCap w (m + k) m e - (m + k))).toList := by simp
  rw [e1] at s3
  have s4 := osl_own (by rw [List.length_append, hbase.len, hsrc.len, Nat.add_mul]) hge hcm (by
    simp only [List.length_append, Array.length_toList, size_zeroCells, hzs, hbase.len, hsrc.len, ← Nat.add_mul]; congr 1; omega) s3
  unfold OpR
  rw [run_append_op r hx hy w, hrun]
  exact ⟨fun _ => x3, _, k' _, s4⟩

/-! ### make -/
/-- a slice written out, owned as a slice -/
theorem Stp.buildSliceO {T e : TypeId} {len sz bytes : Nat} {zs : List Value} {ps : List (Nat × Operand)} {qs : List (Nat × Value)} {vs : List Value} (hu : P.underlying T = some (.slice e)) (ht : Ty P e sz bytes zs) (h24 : len * sz ≤ 2 ^ 24) (h0 : len * sz ≠ 0) (hq : ps.map (fun p => (p.1, ev f p.2)) = qs)
    (_hc : collect (fun c => findCell (fun i => some (i * sz, sz)) (List.replicate len zs).flatten c qs) 0 (len * sz) = some vs) (h' : fillL (fun i => some (i * sz, sz)) ((List.range (len * sz)).map (fun x => zs.toArray[x % zs.toArray.size]!)) qs = some vs) (hl : vs.length = len * sz) (h63 : len ≤ 9223372036854775807) (k : ∀ v, K v (osl e sz v len vs :: H)) : Stp true P n f E H ⟨d, .buildSlice T len ps.toArray, ty, pos, aft, g⟩ K := fun w a r s => by
  refine (Stp.buildSlice (K := fun v H' => ∃ b, v = .slice (some ⟨b, 0, none⟩) len len ∧ H' = own b vs e :: H) hu ht h24 h0 hq _hc h' (fun b => ⟨b, rfl, rfl⟩) w a r s).mono ?_
  rintro v w' ⟨x, _, ⟨b, rfl, rfl⟩, s'⟩
  exact ⟨x, _, k _, osl_own (rest := []) hl (Nat.le_refl _) (by simp only [maxLen]; exact h63) (by simpa using hl) (by simpa using s')⟩
theorem Stp.make {t e : TypeId} {sz bytes m : Nat} {zs : List Value} {kk kc : IntKind} {iv : Int} (ht : P.underlying t = some (.slice e)) (hT : Ty P e sz bytes zs) (hz : zs.length = sz) (hx : ev f x = .int kk iv) (hy : ev f y = .int kc iv) (hi : iv = (m : Int))
    (hb : bytes * m ≤ 281474976710656) (h63 : m ≤ 9223372036854775807) (k : ∀ v, K v (osl e sz v m (List.replicate m zs).flatten :: H)) : Stp true P n f E H ⟨d, .makeSlice t x y, ty, pos, aft, g⟩ K := fun w a r s => by
  obtain ⟨i, zv, hi', hisz, hiby, hiz, hzc⟩ := hT.info
  subst hi
  have hr := run_make (P := P) w t e i zv ht hi' hiz kk kc m m (by omega) (Int.le_refl _) (by rw [hiby, ← Int.natCast_mul]; omega) (by omega)
  have e1 : (execOp a.eval ⟨d, .makeSlice t x y, ty, pos, aft, g⟩).run P w = .ok (.value (.slice (some ⟨w.heap.size, 0, none⟩) m m)) (w.alloc (.cells (madeCells zv.cells (m * i.size)) e)) := by
    have : (execOp a.eval ⟨d, .makeSlice t x y, ty, pos, aft, g⟩).run P w = ((Instr.makeSlice t (.int kk (m : Int)) (.int kc (m : Int))).run P w).andThen fun v w' => .ok (.value v) w' := by
      simp [execOp, r.eval, hx, hy]
    rw [this, hr]; simp
  obtain ⟨s2, x2⟩ := s.allocA (madeCells zv.cells (m * i.size)) e
  have e2 : (madeCells zv.cells (m * i.size)).toList = (List.replicate m zs).flatten := by rw [hisz, hzc]; exact madeCells_list hz m
  have hlen : ((List.replicate m zs).flatten).length = m * sz := by simp [hz]
  rw [e2] at s2
  unfold OpR
  rw [e1]
  refine ⟨fun _ => x2, _, k _, osl_own (rest := []) hlen (Nat.le_refl _) (by simp only [maxLen]; exact h63) (by simpa using hlen) (by simpa using s2)⟩
end
end Go.Sx
end
section
/- copy; structs that are compared; strings and bytes. -/
namespace Go.Sx
open Go

/-- d's dl elements lie where v's elements from lo on lie -/
def LiesIn (E : Env) (H : List HProp) (v : Value) (sz : Nat) (d : Value) (lo dl : Nat) : Prop :=
  ∀ w, St E H w → (dl = 0 ∧ ∃ a c, d = .slice a 0 c) ∨ ∃ c, d = .slice (some ⟨blkOf v, offOf v + lo * sz, none⟩) dl c
theorem LiesIn.whole {E : Env} {H : List HProp} {v : Value} {sz m : Nat} {vs : List Value} (h : Sl E H sz v m vs) : LiesIn E H v sz v 0 m := fun w s => by
  rcases (h w s).val with ⟨hm, a, c, hv, _⟩ | ⟨cap, hv, _⟩
  · exact .inl ⟨hm, a, c, hv⟩
  · exact .inr ⟨cap, by rw [Nat.zero_mul, Nat.add_zero]; exact hv⟩
theorem LiesIn.sub {E : Env} {H : List HProp} {v : Value} {sz m : Nat} {vs : List Value} (h : Sl E H sz v m vs) {lo hi mx : Nat} (h1 : lo ≤ hi) (h2 : hi ≤ m) (h3 : hi ≤ mx) : LiesIn E H v sz (subSl v sz lo hi mx) lo (hi - lo) := fun w s => by
  by_cases hz : hi - lo = 0
  · obtain ⟨_, _, a, hv⟩ := (h w s).cap
    refine .inl ⟨hz, (if mx = lo then a else a.map (·.add (lo * sz))), mx - lo, ?_⟩
    rw [hv]; simp only [subSl, hz]
  · rcases (h w s).val with ⟨hm, _⟩ | ⟨cap, hv, _⟩
    · omega
    · have hne : ¬ mx = lo := by omega
      refine .inr ⟨mx - lo, ?_⟩
      rw [hv]
      simp only [subSl, hne, if_false, Option.map_some, addr_add, blkOf, offOf]

theorem LiesIn.sub' {E : Env} {H : List HProp} {v : Value} {sz m : Nat} {vs : List Value} (h : Sl E H sz v m vs) {lo hi : Nat} (h1 : lo ≤ hi) (h2 : hi ≤ m) : LiesIn E H v sz (subSl v sz lo hi (capOf v)) lo (hi - lo) := fun w s =>
  LiesIn.sub h h1 h2 (Nat.le_trans h2 (h w s).cap.1) w s
theorem run_first {P : Program} {sz : Nat} {u : Value} {k m : Nat} {ys : List Value} {w : World} (h : SlW w sz u k ys) (hm : m ≤ k) : (Builtin.firstCells sz m u).run P w = .ok (ys.take (m * sz)).toArray w := by
  rcases h.val with ⟨rfl, a, c, rfl, _⟩ | ⟨cap, hu, _, _, hc⟩
  · obtain rfl : m = 0 := by omega
    cases a <;> simp [Builtin.firstCells, loadCells, loadCellsFrom]
  · rw [hu]
    refine run_firstCells_some (P := P) w sz m _ k cap (ys.take (m * sz)) ?_ ?_
    · have := h.len
      have hle : m * sz ≤ k * sz := Nat.mul_le_mul_right _ hm
      simp; omega
    · intro j q hj
      rw [addr_add]
      rw [List.getElem?_take] at hj
      split at hj
      · exact hc j q hj
      · cases hj

section
variable {P : Program} {n : Nat} {f : Fr} {E : Env} {H : List HProp} {d : Option Nat} {ty : TypeId} {pos : String} {aft : Array Edge} {g : Option (Nat × Bool)} {x y z : Operand} {K : Value → List HProp → Prop}
theorem run_copy_op {t t' : TypeId} {a : Act} (r : Rel n f a.tmps) {u v : Value} (hx : ev f x = u) (hy : ev f y = v) (w : World) :
    (execOp a.eval ⟨d, .call { callee := .builtin .copy, args := #[x, y], argTypes := #[t, t'] }, ty, pos, aft, g⟩).run P w = ((Builtin.copy_ #[t, t'] ty #[u, v]).run P w).andThen fun v w' => .ok (.value v) w' := by
  simp [execOp, r.eval, hx, hy, resolve, invoke, builtin]
/-- copy into an owned slice, or a part of it -/
theorem Stp.copy (i : Nat) {t t' e tg : TypeId} {sz m lo dl k : Nat} {v dv u : Value} {vs ys : List Value} (ht : P.underlying t = some (.slice e)) (hz : ∀ w, (sizeOf e).run P w = .ok sz w) (hi : H[i]? = some (osl tg sz v m vs)) (hx : ev f x = dv) (hd : LiesIn E H v sz dv lo dl) (hle : lo + dl ≤ m)
    (hy : ev f y = u) (hs : Sl E H sz u k ys) (h1 : ys.all (·.oneCell') = true)
    (k' : K (.int .i64 (Nat.min k dl : Nat)) (H.set i (osl tg sz v m (vs.take (lo * sz) ++ ys.take (Nat.min k dl * sz) ++ vs.drop ((lo + Nat.min k dl) * sz))))) :
    Stp false P n f E H ⟨d, .call { callee := .builtin .copy, args := #[x, y], argTypes := #[t, t'] }, ty, pos, aft, g⟩ K := fun w a r s => by
  have hsrc := hs w s
  have hlen : (Builtin.lenOf u).run P w = .ok k w := by
    rcases hsrc.val with ⟨rfl, a, c, rfl, _⟩ | ⟨cap, hu, _⟩
    · simp [Builtin.lenOf]
    · rw [hu]; simp [Builtin.lenOf]
  have hq : Nat.min k dl ≤ k := Nat.min_le_left _ _
  have hq2 : Nat.min k dl ≤ dl := Nat.min_le_right _ _
  generalize hN : Nat.min k dl = N at *
  have hf := run_first (P := P) hsrc hq
  have h1' : ∀ q ∈ ys.take (N * sz), q.oneCell' = true := fun q hq => one_all h1 q (List.mem_of_mem_take hq)
  have hytl : (ys.take (N * sz)).length = N * sz := by
    have := hsrc.len
    have hle : N * sz ≤ k * sz := Nat.mul_le_mul_right _ hq
    simp; omega
  unfold OpR
  rw [run_copy_op r hx hy w]
  rcases hd w s with ⟨hdl, a, c, rfl⟩ | ⟨c, rfl⟩
  · obtain rfl : N = 0 := by omega
    have hrun : (Builtin.copy_ #[t, t'] ty #[.slice a dl c, u]).run P w = .ok (.int .i64 (0 : Nat)) w := by
      subst hdl
      cases a <;> simp [Builtin.copy_, run_underlying ht, hlen, hz, hf, storeCells, goInt]
    rw [show (Value.slice a 0 c) = Value.slice a dl c by rw [hdl], hrun]
    refine ⟨fun e => (by cases e), H, ?_, s⟩
    simp only [Nat.zero_mul, List.take_zero, List.append_nil, Nat.add_zero, List.take_append_drop] at k'
    have : H.set i (osl tg sz v m vs) = H := by
      obtain ⟨hlt, he⟩ := List.getElem?_eq_some_iff.1 hi
      rw [← he]; exact List.set_getElem_self hlt
    rw [this] at k'
    exact k'
  · rcases osl_cases (s.get hi) with ⟨a, rfl, rfl, rfl, _⟩ | ⟨b, cap, rest, rfl, g1, g2, g3, g4, s2⟩
    · obtain rfl : dl = 0 := by omega
      obtain rfl : N = 0 := by omega
      obtain rfl : lo = 0 := by omega
      have hrun : (Builtin.copy_ #[t, t'] ty #[.slice (some ⟨blkOf (.slice a 0 0), offOf (.slice a 0 0) + 0 * sz, none⟩) 0 c, u]).run P w = .ok (.int .i64 (0 : Nat)) w := by
        simp [Builtin.copy_, run_underlying ht, hlen, hz, hf, storeCells, goInt]
      rw [hrun]
      refine ⟨fun e => (by cases e), H, ?_, s⟩
      simp only [Nat.zero_mul, List.take_zero, List.append_nil, Nat.add_zero, List.drop_zero] at k'
      have : H.set i (osl tg sz (.slice a 0 0) 0 []) = H := by
        obtain ⟨hlt, he⟩ := List.getElem?_eq_some_iff.1 hi
        rw [← he]; exact List.set_getElem_self hlt
      rw [this] at k'
      exact k'
    · have hfit : lo * sz + (ys.take (N * sz)).length ≤ (vs ++ rest).toArray.size := by
        have : (lo + N) * sz ≤ m * sz := Nat.mul_le_mul_right _ (by omega)
        rw [Nat.add_mul] at this
        simp only [List.size_toArray, List.length_append, hytl, g1]; omega
      have hst := run_storeCells_at P b (lo * sz) tg (ys.take (N * sz)) 0 (vs ++ rest).toArray w s2.block (by simpa using hfit) h1'
      simp only [Nat.add_zero] at hst
      have hrun : (Builtin.copy_ #[t, t'] ty #[.slice (some ⟨b, lo * sz, none⟩) dl c, u]).run P w = .ok (.int .i64 (N : Nat)) (w.setRow b ((vs ++ rest).toArray.toList.take (lo * sz) ++ ys.take (N * sz) ++ (vs ++ rest).toArray.toList.drop (lo * sz + (ys.take (N * sz)).length)).toArray) := by
        simp only [Builtin.copy_, List.getElem?_toArray, List.getElem?_cons_zero, List.getElem?_cons_succ, Sem.run_bind, run_underlying ht, Result.andThen_ok, hlen, hN, hz, hf, hst, goInt, Sem.run_pure]
      rw [show (blkOf (.slice (some ⟨b, 0, none⟩) m cap)) = b from rfl, show offOf (.slice (some ⟨b, 0, none⟩) m cap) + lo * sz = lo * sz by simp [offOf], hrun]
      have e1 : (vs ++ rest).toArray.toList.take (lo * sz) ++ ys.take (N * sz) ++ (vs ++ rest).toArray.toList.drop (lo * sz + (ys.take (N * sz)).length) = (vs.take (lo * sz) ++ ys.take (N * sz) ++ vs.drop ((lo + N) * sz)) ++ rest := by
        have h3 : (lo + N) * sz ≤ m * sz := Nat.mul_le_mul_right _ (by omega)
        rw [Nat.add_mul] at h3 ⊢
        rw [hytl]
        show (vs ++ rest).take _ ++ _ ++ (vs ++ rest).drop _ = _
        rw [List.take_append_of_le_length (by omega), List.drop_append_of_le_length (by omega)]; simp only [List.append_assoc]
      have s3 := setRow_write (vs' := (vs.take (lo * sz) ++ ys.take (N * sz) ++ vs.drop ((lo + N) * sz)) ++ rest) s2
      rw [e1]
      have hlen2 : (vs.take (lo * sz) ++ ys.take (N * sz) ++ vs.drop ((lo + N) * sz)).length = vs.length := by
        have h3 : (lo + N) * sz ≤ m * sz := Nat.mul_le_mul_right _ (by omega)
        rw [Nat.add_mul] at h3 ⊢
        simp only [List.length_append, List.length_take, List.length_drop, g1]
        simp only [List.length_take] at hytl
        omega
      exact ⟨fun e => (by cases e), _, k', St.put hi (osl_own (by rw [hlen2]; exact g1) g2 g3 (by rw [List.length_append, hlen2, ← List.length_append]; exact g4) s3)⟩

/-! ### '==' of structs -/
/-- what '==' of two structs comes to -/
def EqAgg (P : Program) (T : TypeId) (xs ys : List Value) (b : Bool) : Prop := ∀ k w, (Op.equalIn (k + 10) T (.agg xs.toArray) (.agg ys.toArray)).run P w = .ok b w
theorem Dtu.eqS {t t' : TypeId} {xs ys : List Value} {b : Bool} (hg : P.eqGuardType P.depth t = false) (h : EqAgg P t xs ys b) (hx : ev f x = .agg xs.toArray) (hy : ev f y = .agg ys.toArray) : Dtu P n f E H ⟨d, .binOp .eql t x y t', ty, pos, aft, g⟩ (.bool b) := fun w0 s w a r => by
  simp only [execOp, r.eval, hx, hy, Sem.run_bind, run_eqGuard_agg w .eql t x y _ _ hg, Result.andThen_ok, run_eql_struct, h 9990 w, Sem.run_pure]
theorem Dtu.neS {t t' : TypeId} {xs ys : List Value} {b : Bool} (hg : P.eqGuardType P.depth t = false) (h : EqAgg P t xs ys b) (hx : ev f x = .agg xs.toArray) (hy : ev f y = .agg ys.toArray) : Dtu P n f E H ⟨d, .binOp .neq t x y t', ty, pos, aft, g⟩ (.bool (!b)) := fun w0 s w a r => by
  simp only [execOp, r.eval, hx, hy, Sem.run_bind, run_eqGuard_agg w .neq t x y _ _ hg, Result.andThen_ok, run_neq_struct, h 9990 w, Sem.run_pure]
/-- what '==' of two values comes to -/
def EqD (P : Program) (d : Nat) (T : TypeId) (x y : Value) (b : Bool) : Prop := ∀ w, (Op.equalIn d T x y).run P w = .ok b w
/-- the same, of a struct's fields -/
def FE (P : Program) (d : Nat) (xs ys : List Value) (fs : List Field) (b : Bool) : Prop := ∀ w, (Op.eqFields d xs.toArray ys.toArray fs).run P w = .ok b w
theorem EqD.int {d : Nat} {T : TypeId} {k k' : IntKind} {a b : Int} (h : P.underlying T = some (.int k')) : EqD P (d + 1) T (.int k a) (.int k b) (a == b) := fun w => run_equalIn_int w d T k k' a b h
theorem EqD.bool {d : Nat} {T : TypeId} {a b : Bool} (h : P.underlying T = some .bool) : EqD P (d + 1) T (.bool a) (.bool b) (a == b) := fun w => run_equalIn_bool w d T a b h
theorem FE.nil {d : Nat} {xs ys : List Value} : FE P d xs ys [] true := fun w => by simp [Op.eqFields]
theorem FE.cons {d : Nat} {xs ys : List Value} {fd : Field} {fs : List Field} {a b : Value} {r q : Bool} (hn : (fd.name == "_") = false) (ha : ∀ w, (part fd.type xs.toArray fd.offset).run P w = .ok a w) (hb : ∀ w, (part fd.type ys.toArray fd.offset).run P w = .ok b w) (he : EqD P d fd.type a b r) (hr : FE P d xs ys fs q) : FE P d xs ys (fd :: fs) (r && q) := fun w => by
  have hn' : fd.name ≠ "_" := by simpa using hn
  simp only [Op.eqFields, if_pos hn', Sem.run_bind, ha, hb, he w, Result.andThen_ok]
  cases r
  · simp
  · simpa using hr w
theorem part_v {T : TypeId} {off : Nat} {xs : List Value} {v : Value} (hT : ∀ w, (isAgg T).run P w = .ok false w) (hx : xs[off]? = some v) (w : World) : (part T xs.toArray off).run P w = .ok v w := by
  simp [part, hT, hx]
theorem EqD.struct {d : Nat} {T : TypeId} {fs : Array Field} {xs ys : List Value} {b : Bool} (hu : P.underlying T = some (.struct fs)) (hp : P.stoodInHeld T = false) (h : FE P d xs ys fs.toList b) : EqD P (d + 1) T (.agg xs.toArray) (.agg ys.toArray) b := fun w => by
  have e : P.fieldsOf T = fs := by simp [Program.fieldsOf, hu]
  rw [run_equalIn_struct w d T _ _ (by rw [e]; exact hu) hp, e]
  exact h w
theorem EqAgg.mk {T : TypeId} {xs ys : List Value} {b : Bool} (h : ∀ k, EqD P (k + 10) T (.agg xs.toArray) (.agg ys.toArray) b) : EqAgg P T xs ys b := fun k w => h k w
theorem run_eqNil1 {d : Nat} {t e : TypeId} {a : Option Addr} (hu : P.underlying t = some (.pointer e)) (w : World) : (Op.equalIn (d + 1) t (.pointer a) (.pointer none)).run P w = .ok a.isNone w := by
  simp only [Op.equalIn, Sem.run_bind, run_underlying hu, Result.andThen_ok]
  cases a <;> simp
theorem run_eqNil {t e : TypeId} {a : Option Addr} (hu : P.underlying t = some (.pointer e)) (w : World) : (Op.equal t (.pointer a) (.pointer none)).run P w = .ok a.isNone w := run_eqNil1 (d := 9999) hu w
theorem Dtu.eqNil {t t' e : TypeId} {a : Option Addr} (hu : P.underlying t = some (.pointer e)) (hx : ev f x = .pointer a) (hy : ev f y = .pointer none) : Dtu P n f E H ⟨d, .binOp .eql t x y t', ty, pos, aft, g⟩ (.bool a.isNone) := fun w0 s w a' r => by
  have e : (eqGuard .eql t x y (.pointer a) (.pointer none)).run P w = .ok () w := rfl
  simp only [execOp, r.eval, hx, hy, Sem.run_bind, e, Result.andThen_ok, binOp, run_eqNil hu w, Sem.run_pure]
theorem Dtu.neNil {t t' e : TypeId} {a : Option Addr} (hu : P.underlying t = some (.pointer e)) (hx : ev f x = .pointer a) (hy : ev f y = .pointer none) : Dtu P n f E H ⟨d, .binOp .neq t x y t', ty, pos, aft, g⟩ (.bool (!a.isNone)) := fun w0 s w a' r => by
  have e : (eqGuard .neq t x y (.pointer a) (.pointer none)).run P w = .ok () w := rfl
  simp only [execOp, r.eval, hx, hy, Sem.run_bind, e, Result.andThen_ok, binOp, run_eqNil hu w, Sem.run_pure]
theorem Dtu.neStr {t t' : TypeId} {a b : ByteArray} (hx : ev f x = .string a) (hy : ev f y = .string b) : Dtu P n f E H ⟨d, .binOp .neq t x y t', ty, pos, aft, g⟩ (.bool (decide (a.toList ≠ b.toList))) := fun w0 s w a' r => by
  have e : (eqGuard .neq t x y (.string a) (.string b)).run P w = .ok () w := rfl
  simp only [execOp, r.eval, hx, hy, Sem.run_bind, e, Result.andThen_ok, binOp, Op.stringOp, Sem.run_pure]
  by_cases h : a.toList = b.toList <;> simp [h]
end
end Go.Sx
end
section
/- Frames written out as lists, and the rules in that form. -/
namespace Go.Sx
open Go

inductive Ent where
  | set (i : Nat) (v : Value)
  | many (W : List Nat) (u : Fr)
  | all (u : Fr)
def fr : List Ent → Fr
  | [] => fr0
  | .set i v :: F => upd (fr F) i v
  | .many W u :: F => mix W u (fr F)
  | .all u :: _ => u
def look : List Ent → Nat → Option Value
  | [], _ => some undef
  | .set i v :: F, t => bif Nat.beq t i then some v else look F t
  | .many W u :: F, t => bif W.any (Nat.beq t) then some (u t) else look F t
  | .all u :: _, t => some (u t)
theorem look_fr : ∀ (F : List Ent) (t : Nat), look F t = some (fr F t)
  | [], _ => rfl
  | .set i v :: F, t => by
    simp only [look, fr, upd, look_fr F t]
    cases Nat.beq t i <;> rfl
  | .many W u :: F, t => by
    simp only [look, fr, mix, look_fr F t]
    cases W.any (Nat.beq t) <;> rfl
  | .all u :: F, t => rfl
def evl (F : List Ent) : Operand → Option Value
  | .tmp t => look F t
  | .const v => some v
  | .global g => some (.pointer (some ⟨g, 0, none⟩))
  | .func g => some (.func (.func g) #[] #[])
theorem lk {F : List Ent} {x : Operand} {v : Value} (h : evl F x = some v) : ev (fr F) x = v := by
  cases x with
  | tmp t => simp only [evl, look_fr F t] at h; exact Option.some.inj h
  | const u => exact Option.some.inj h
  | global g => exact Option.some.inj h
  | func g => exact Option.some.inj h
def evls (F : List Ent) : List Operand → Option (List Value)
  | [] => some []
  | x :: xs => match evl F x, evls F xs with
    | some v, some vs => some (v :: vs)
    | _, _ => none
theorem lks {F : List Ent} : ∀ {xs : List Operand} {vs : List Value}, evls F xs = some vs → evs (fr F) xs = vs
  | [], _, h => by simp only [evls, Option.some.injEq] at h; subst h; rfl
  | x :: xs, vs, h => by
    simp only [evls] at h
    split at h
    · rename_i v us h1 h2
      obtain rfl := Option.some.inj h
      simp only [evs, List.map_cons, lk h1]
      exact congrArg _ (lks h2)
    · cases h
def evps (F : List Ent) : List (Nat × Operand) → Option (List (Nat × Value))
  | [] => some []
  | (i, x) :: xs => match evl F x, evps F xs with
    | some v, some vs => some ((i, v) :: vs)
    | _, _ => none
theorem lkp {F : List Ent} : ∀ {xs : List (Nat × Operand)} {vs : List (Nat × Value)}, evps F xs = some vs → xs.map (fun p => (p.1, ev (fr F) p.2)) = vs
  | [], _, h => by simp only [evps, Option.some.injEq] at h; subst h; rfl
  | (i, x) :: xs, vs, h => by
    simp only [evps] at h
    split at h
    · rename_i v us h1 h2
      obtain rfl := Option.some.inj h
      simp only [List.map_cons, lk h1]
      exact congrArg _ (lkp h2)
    · cases h
def argsL : Nat → List Value → List Ent
  | _, [] => []
  | i, v :: vs => .set i v :: argsL (i + 1) vs
theorem fr_argsL : ∀ (i : Nat) (vs : List Value) (t : Nat), fr (argsL i vs) t = if t < i then undef else vs.getD (t - i) undef
  | i, [], t => by simp [argsL, fr, fr0]
  | i, v :: vs, t => by
    simp only [argsL, fr, upd]
    rw [fr_argsL (i + 1) vs t]
    by_cases h : t = i
    · subst h; simp
    · have hb : Nat.beq t i = false := by
        cases hb : Nat.beq t i with
        | false => rfl
        | true => exact absurd (Nat.eq_of_beq_eq_true hb) h
      rw [hb, cond_false]
      by_cases h2 : t < i
      · simp [h2, show t < i + 1 by omega]
      · rw [if_neg (by omega), if_neg h2, show t - i = (t - (i + 1)) + 1 by omega]; simp
theorem argsFr_eq (vs : List Value) : argsFr vs = fr (argsL 0 vs) := by
  funext t; rw [fr_argsL]; simp [argsFr]

section
variable {P : Program} {n : Nat} {F : List Ent} {E : Env} {H : List HProp} {K : Kont} {all : Array Oper} {rest : List Oper} {dd : Nat} {op : Op} {ty : TypeId} {pos : String} {aft : Array Edge} {v : Value}
/-- into a function -/
theorem Does.go {g : FuncId} {fn : Func} {c : Code} {args : List Value} {Q : Value → List HProp → Prop} (n : Nat) (rs : List ResultVar)
    (hf : P.funcs[g]? = some fn) (hb : fn.body = some c) (hn : fn.ntmps = n) (hr : fn.results = rs.toArray) (ha : Nat.ble args.length n = true)
    (h : Body P n c (fr (argsL 0 args)) E H fun e f' H' => (e = .norm ∨ e = .ret) ∧ ResK P f' E H' rs fun vs => ∃ c, (∀ w, St E H' w → St E c w) ∧ Q (mkRes vs) c) :
    Does P g args.toArray E H Q := Does.enter n rs hf hb hn hr (Nat.le_of_ble_eq_true ha) (by rw [argsFr_eq]; exact h)

theorem Ops.d (h : Det P n (fr F) E H ⟨some dd, op, ty, pos, aft, none⟩ v) (hd : Nat.blt dd n = true) (k : Ops P n all rest (fr (.set dd v :: F)) E H K) : Ops P n all (⟨some dd, op, ty, pos, aft, none⟩ :: rest) (fr F) E H K :=
  Ops.stp rfl hd (Det.stp h k)
theorem Ops.u (h : Dtu P n (fr F) E H ⟨some dd, op, ty, pos, aft, none⟩ v) (hd : Nat.blt dd n = true) (k : Ops P n all rest (fr (.set dd v :: F)) E H K) : Ops P n all (⟨some dd, op, ty, pos, aft, none⟩ :: rest) (fr F) E H K :=
  Ops.stp rfl hd (Det.stp h.det k)
theorem Ops.s {q : Bool} (h : Stp q P n (fr F) E H ⟨some dd, op, ty, pos, aft, none⟩ fun v H' => Ops P n all rest (fr (.set dd v :: F)) E H' K) (hd : Nat.blt dd n = true) : Ops P n all (⟨some dd, op, ty, pos, aft, none⟩ :: rest) (fr F) E H K :=
  Ops.stp rfl hd h
theorem Ops.e {q : Bool} (h : Stp q P n (fr F) E H ⟨none, op, ty, pos, aft, none⟩ fun _ H' => Ops P n all rest (fr F) E H' K) : Ops P n all (⟨none, op, ty, pos, aft, none⟩ :: rest) (fr F) E H K :=
  Ops.stp rfl rfl h
/-- guarded, and wanted -/
theorem Ops.gd {j t : Nat} {b : Bool} (hj : guardSlot all j = some t) (ht : Nat.blt t n = true) (hb : look F t = some (.bool b)) (h : Det P n (fr F) E H ⟨some dd, op, ty, pos, aft, some (j, b)⟩ v) (hd : Nat.blt dd n = true) (k : Ops P n all rest (fr (.set dd v :: F)) E H K) :
    Ops P n all (⟨some dd, op, ty, pos, aft, some (j, b)⟩ :: rest) (fr F) E H K :=
  Ops.gyes rfl hj ht (Option.some.inj ((look_fr F t).symm.trans hb)) hd (Det.stp h k)
theorem Ops.gu {j t : Nat} {b : Bool} (hj : guardSlot all j = some t) (ht : Nat.blt t n = true) (hb : look F t = some (.bool b)) (h : Dtu P n (fr F) E H ⟨some dd, op, ty, pos, aft, some (j, b)⟩ v) (hd : Nat.blt dd n = true) (k : Ops P n all rest (fr (.set dd v :: F)) E H K) :
    Ops P n all (⟨some dd, op, ty, pos, aft, some (j, b)⟩ :: rest) (fr F) E H K := Ops.gd hj ht hb h.det hd k
theorem Ops.gs {q : Bool} {j t : Nat} {b : Bool} (hj : guardSlot all j = some t) (ht : Nat.blt t n = true) (hb : look F t = some (.bool b)) (h : Stp q P n (fr F) E H ⟨some dd, op, ty, pos, aft, some (j, b)⟩ fun v H' => Ops P n all rest (fr (.set dd v :: F)) E H' K) (hd : Nat.blt dd n = true) :
    Ops P n all (⟨some dd, op, ty, pos, aft, some (j, b)⟩ :: rest) (fr F) E H K :=
  Ops.gyes rfl hj ht (Option.some.inj ((look_fr F t).symm.trans hb)) hd h
/-- guarded, and not wanted -/
theorem Ops.gn {j t : Nat} {b : Bool} {v : Value} (hj : guardSlot all j = some t) (ht : Nat.blt t n = true) (hb : look F t = some v) (hne : isB v b = false) (hd : Nat.blt dd n = true) (k : Ops P n all rest (fr (.set dd undef :: F)) E H K) :
    Ops P n all (⟨some dd, op, ty, pos, aft, some (j, b)⟩ :: rest) (fr F) E H K :=
  Ops.gno rfl hj ht (by rw [Option.some.inj ((look_fr F t).symm.trans hb)]; exact hne) hd k
/-- a Bool in a slot is decided -/
theorem fr_decide {t : Nat} {b : Bool} (hb : look F t = some (.bool b)) {c : Bool} (hc : b = c) : fr F = fr (.set t (.bool c) :: F) := by
  subst hc
  funext s
  simp only [fr, upd]
  cases h : Nat.beq s t with
  | false => rfl
  | true =>
    have : s = t := Nat.eq_of_beq_eq_true h
    subst this
    exact Option.some.inj ((look_fr F s).symm.trans hb)
theorem Ops.dec {l : List Oper} (t : Nat) {b : Bool} (hb : look F t = some (.bool b)) (h1 : b = true → Ops P n all l (fr (.set t (.bool true) :: F)) E H K) (h2 : b = false → Ops P n all l (fr (.set t (.bool false) :: F)) E H K) : Ops P n all l (fr F) E H K := by
  cases hc : b with
  | true => rw [fr_decide hb hc]; exact h1 hc
  | false => rw [fr_decide hb hc]; exact h2 hc
theorem Ops.decP {l : List Oper} (t : Nat) {p : Prop} {_ : Decidable p} (hb : look F t = some (.bool (decide p))) (h1 : p → Ops P n all l (fr (.set t (.bool true) :: F)) E H K) (h2 : ¬ p → Ops P n all l (fr (.set t (.bool false) :: F)) E H K) : Ops P n all l (fr F) E H K :=
  Ops.dec t hb (fun e => h1 (of_decide_eq_true e)) (fun e => h2 (of_decide_eq_false e))
theorem Body.decP {c : Code} (t : Nat) {p : Prop} {_ : Decidable p} (hb : look F t = some (.bool (decide p))) (h1 : p → Body P n c (fr (.set t (.bool true) :: F)) E H K) (h2 : ¬ p → Body P n c (fr (.set t (.bool false) :: F)) E H K) : Body P n c (fr F) E H K := by
  by_cases hp : p
  · rw [fr_decide hb (decide_eq_true hp)]; exact h1 hp
  · rw [fr_decide hb (decide_eq_false hp)]; exact h2 hp

/-! ### loops -/
def LookAll (F : List Ent) : List (Nat × Value) → Prop
  | [] => True
  | (i, v) :: r => look F i = some v ∧ LookAll F r
def sets : List (Nat × Value) → List Ent
  | [] => []
  | (i, v) :: r => .set i v :: sets r
theorem fr_sets {F G : List Ent} : ∀ (L : List (Nat × Value)), LookAll F L → (∀ t, fr G t = fr F t) → ∀ t, fr (sets L ++ G) t = fr F t
  | [], _, h, t => h t
  | (i, v) :: r, ⟨h1, h2⟩, h, t => by
    simp only [sets, List.cons_append, fr, upd]
    cases hb : Nat.beq t i with
    | false => exact fr_sets r h2 h t
    | true =>
      have : t = i := Nat.eq_of_beq_eq_true hb
      subst this
      exact (Option.some.inj ((look_fr F t).symm.trans h1)).symm
def inW (W : List Nat) : List Ent → Bool
  | [] => true
  | .set i _ :: r => W.any (Nat.beq i) && inW W r
  | .many W' _ :: r => W'.all (fun i => W.any (Nat.beq i)) && inW W r
  | .all _ :: _ => false
theorem fr_many {W : List Nat} {u : Fr} {F0 : List Ent} : ∀ (A : List Ent), inW W A = true → ∀ t, fr (.many W (fr (A ++ .many W u :: F0)) :: F0) t = fr (A ++ .many W u :: F0) t := by
  intro A hA t
  simp only [fr, mix]
  cases hW : W.any (Nat.beq t) with
  | true => rfl
  | false =>
    rw [cond_false]
    induction A with
    | nil => simp only [List.nil_append, fr, mix, hW, cond_false]
    | cons e A ih =>
      cases e with
      | set i v =>
        simp only [inW, Bool.and_eq_true] at hA
        simp only [List.cons_append, fr, upd]
        have hne : Nat.beq t i = false := by
          cases hb : Nat.beq t i with
          | false => rfl
          | true =>
            have : t = i := Nat.eq_of_beq_eq_true hb
            subst this
            rw [hA.1] at hW; cases hW
        rw [hne, cond_false]; exact ih hA.2
      | many W' u' =>
        simp only [inW, Bool.and_eq_true] at hA
        simp only [List.cons_append, fr, mix]
        have hne : W'.any (Nat.beq t) = false := by
          cases hb : W'.any (Nat.beq t) with
          | false => rfl
          | true =>
            obtain ⟨i, hi, hti⟩ := List.any_eq_true.1 hb
            have h1 := List.all_eq_true.1 hA.1 i hi
            have : t = i := Nat.eq_of_beq_eq_true hti
            subst this
            rw [h1] at hW; cases hW
        rw [hne, cond_false]; exact ih hA.2
      | all u' => simp [inW] at hA
def HeadF {γ : Type} (W : List Nat) (L : γ → List (Nat × Value)) (Hs : γ → List HProp) (Φ : γ → Prop) (F0 : List Ent) (E : Env) (g : γ) (f : Fr) (H : List HProp) : Prop :=
  Φ g ∧ (∀ w, St E H w → St E (Hs g) w) ∧ ∃ u, f = fr (sets (L g) ++ .many W u :: F0)
/-- the slots that code writes -/
def opsW : List Oper → List Nat → Option (List Nat)
  | [], acc => some acc
  | o :: r, acc => match opsW r acc with
    | some q => match o.dst with
      | some d => some (d :: q)
      | none => some q
    | none => none
def codeW : Code → List Nat → Option (List Nat)
  | .region _ ops _, acc => opsW ops.toList acc
  | .seq a b, acc => match codeW b acc with
    | some q => codeW a q
    | none => none
  | .cond _ a b, acc => match codeW b acc with
    | some q => codeW a q
    | none => none
  | .block _ c, acc => codeW c acc
  | .loop c, acc => codeW c acc
  | .scope c, acc => codeW c acc
  | _, acc => some acc
/-- a loop: W: the slots that it writes; L: what the living ones hold -/
theorem Body.loopF {c : Code} {γ : Type} {W : List Nat} (_hW : codeW c [] = some W) (L : γ → List (Nat × Value)) (Hs : γ → List HProp) (Φ : γ → Prop) (μ : γ → Nat) (g0 : γ) (h0 : Φ g0) (hL : LookAll F (L g0)) (hH : H = Hs g0)
    (round : ∀ g u, Φ g → Body P n c (fr (sets (L g) ++ .many W u :: F)) E (Hs g) (Round (HeadF W L Hs Φ F E) μ g K)) : Body P n (.loop c) (fr F) E H K := by
  refine Body.loop (HeadF W L Hs Φ F E) μ g0 ⟨h0, fun w s => by rw [← hH]; exact s, fr F, ?_⟩ ?_
  · funext t
    refine (fr_sets (F := F) (L g0) hL (fun t => ?_) t).symm
    simp only [fr, mix]
    cases W.any (Nat.beq t) <;> rfl
  · rintro g f H ⟨h1, hc, u, rfl⟩
    exact Body.conseq hc (round g u h1)
def splitF (k : Nat) : List Ent → Option (List Ent)
  | [] => none
  | e :: r => bif Nat.beq r.length k then some [] else match splitF k r with
    | some A => some (e :: A)
    | none => none
theorem Round.goK {γ : Type} {W : List Nat} {L : γ → List (Nat × Value)} {Hs : γ → List HProp} {Φ : γ → Prop} {μ : γ → Nat} {F0 : List Ent} {g : γ} {u : Fr} {A : List Ent} {C D : List HProp} (is : List Nat) (g' : γ) (_hs : splitF F0.length F = some A) (hF : F = A ++ .many W u :: F0) (hA : inW W A = true) (hL : LookAll F (L g')) (hp : pick is H = some (C, D)) (hH : C = Hs g') (h : Φ g') (hm : μ g' < μ g) :
    Round (HeadF W L Hs Φ F0 E) μ g K .norm (fr F) H := by
  subst hF
  refine ⟨g', ⟨h, fun w s => by rw [← hH]; exact pk is hp w s, fr (A ++ .many W u :: F0), ?_⟩, hm⟩
  funext t
  exact (fr_sets (F := A ++ .many W u :: F0) (L g') hL (fun t => fr_many A hA t) t).symm

/-- two ways come together -/
def Joint (I : Fr → List HProp → Prop) (K : Kont) : Kont
  | .norm, f, H => I f H
  | e, f, H => K e f H
theorem Joint.exit {I : Fr → List HProp → Prop} {f : Fr} {H : List HProp} {id : Nat} (h : K (.exit id) f H) : Joint I K (.exit id) f H := h
theorem Joint.ret {I : Fr → List HProp → Prop} {f : Fr} {H : List HProp} (h : K .ret f H) : Joint I K .ret f H := h
theorem Body.seqJ {c d : Code} {γ : Type} {W : List Nat} (_hW : codeW c [] = some W) (L : γ → List (Nat × Value)) (Hs : γ → List HProp) (Φ : γ → Prop)
    (h1 : Body P n c (fr F) E H (Joint (fun f H => ∃ g, HeadF W L Hs Φ F E g f H) K)) (h2 : ∀ g u, Φ g → Body P n d (fr (sets (L g) ++ .many W u :: F)) E (Hs g) K) : Body P n (.seq c d) (fr F) E H K :=
  Body.seq (Body.mono h1 fun e f H k => by
    cases e with
    | norm => obtain ⟨g, hΦ, hc, u, rfl⟩ := k; exact Body.conseq hc (h2 g u hΦ)
    | exit id => exact k
    | ret => exact k)
theorem fr_out {W : List Nat} {G : List Ent} {t : Nat} (hW : W.any (Nat.beq t) = false) : ∀ (A : List Ent), inW W A = true → fr (A ++ G) t = fr G t := by
  intro A hA
  induction A with
  | nil => rfl
  | cons e A ih =>
    cases e with
    | set i v =>
      simp only [inW, Bool.and_eq_true] at hA
      simp only [List.cons_append, fr, upd]
      have hne : Nat.beq t i = false := by
        cases hb : Nat.beq t i with
        | false => rfl
        | true =>
          have : t = i := Nat.eq_of_beq_eq_true hb
          subst this
          rw [hA.1] at hW; cases hW
      rw [hne, cond_false]; exact ih hA.2
    | many W' u' =>
      simp only [inW, Bool.and_eq_true] at hA
      simp only [List.cons_append, fr, mix]
      have hne : W'.any (Nat.beq t) = false := by
        cases hb : W'.any (Nat.beq t) with
        | false => rfl
        | true =>
          obtain ⟨i, hi, hti⟩ := List.any_eq_true.1 hb
          have h1 := List.all_eq_true.1 hA.1 i hi
          have : t = i := Nat.eq_of_beq_eq_true hti
          subst this
          rw [h1] at hW; cases hW
      rw [hne, cond_false]; exact ih hA.2
    | all u' => simp [inW] at hA
def splitJ (k : Nat) : List Ent → Option (List Ent)
  | [] => some []
  | e :: r => bif Nat.beq (r.length + 1) k then some [] else match splitJ k r with
    | some A => some (e :: A)
    | none => none
theorem Joint.goK {γ : Type} {W : List Nat} {L : γ → List (Nat × Value)} {Hs : γ → List HProp} {Φ : γ → Prop} {F0 : List Ent} {A : List Ent} {C D : List HProp} (is : List Nat) (g' : γ) (_hs : splitJ F0.length F = some A) (hF : F = A ++ F0) (hA : inW W A = true) (hL : LookAll F (L g')) (hp : pick is H = some (C, D)) (hH : C = Hs g') (h : Φ g') :
    Joint (fun f H => ∃ g, HeadF W L Hs Φ F0 E g f H) K .norm (fr F) H := by
  subst hF
  refine ⟨g', h, fun w s => by rw [← hH]; exact pk is hp w s, fr (A ++ F0), ?_⟩
  funext t
  refine (fr_sets (F := A ++ F0) (L g') hL (fun t => ?_) t).symm
  simp only [fr, mix]
  cases hW : W.any (Nat.beq t) with
  | true => rfl
  | false => rw [cond_false]; exact (fr_out hW A hA).symm

/-! ### open order -/
variable {ops : Array Oper} {k : Nat} {listed : Array Bool}
theorem AB.d (i : Nat) (hi : ops[i]? = some ⟨some dd, op, ty, pos, aft, none⟩) (hB : firstB ops listed i = true) (hmem : memB ⟨some dd, op, ty, pos, aft, none⟩ = true) (h : Det P n (fr F) E H ⟨some dd, op, ty, pos, aft, none⟩ v) (hd : Nat.blt dd n = true)
    (hk : AB P n ops k (listed.setIfInBounds i true) (fr (.set dd v :: F)) E H K) : AB P n ops (k + 1) listed (fr F) E H K := AB.first i hi hB hmem rfl hd h hk
theorem AB.gd (i : Nat) {j t : Nat} {b : Bool} (hi : ops[i]? = some ⟨some dd, op, ty, pos, aft, some (j, b)⟩) (hB : firstB ops listed i = true) (hmem : memB ⟨some dd, op, ty, pos, aft, some (j, b)⟩ = true) (hj : guardSlot ops j = some t) (ht : Nat.blt t n = true) (hb : look F t = some (.bool b))
    (h : Det P n (fr F) E H ⟨some dd, op, ty, pos, aft, some (j, b)⟩ v) (hd : Nat.blt dd n = true) (hk : AB P n ops k (listed.setIfInBounds i true) (fr (.set dd v :: F)) E H K) : AB P n ops (k + 1) listed (fr F) E H K :=
  AB.firstYes i hi hB hmem rfl hj ht (Option.some.inj ((look_fr F t).symm.trans hb)) hd h hk
theorem AB.u (i : Nat) (hi : ops[i]? = some ⟨some dd, op, ty, pos, aft, none⟩) (hB : firstB ops listed i = true) (h : Dtu P n (fr F) E H ⟨some dd, op, ty, pos, aft, none⟩ v) (hd : Nat.blt dd n = true)
    (hk : AB P n ops k (listed.setIfInBounds i true) (fr (.set dd v :: F)) E H K) : AB P n ops (k + 1) listed (fr F) E H K := AB.firstU i hi hB rfl hd h hk
theorem AB.gu (i : Nat) {j t : Nat} {b : Bool} (hi : ops[i]? = some ⟨some dd, op, ty, pos, aft, some (j, b)⟩) (hB : firstB ops listed i = true) (hj : guardSlot ops j = some t) (ht : Nat.blt t n = true) (hb : look F t = some (.bool b))
    (h : Dtu P n (fr F) E H ⟨some dd, op, ty, pos, aft, some (j, b)⟩ v) (hd : Nat.blt dd n = true) (hk : AB P n ops k (listed.setIfInBounds i true) (fr (.set dd v :: F)) E H K) : AB P n ops (k + 1) listed (fr F) E H K :=
  AB.firstYesU i hi hB rfl hj ht (Option.some.inj ((look_fr F t).symm.trans hb)) hd h hk
theorem AB.gn (i : Nat) {j t : Nat} {b : Bool} {v : Value} (hi : ops[i]? = some ⟨some dd, op, ty, pos, aft, some (j, b)⟩) (hB : firstB ops listed i = true) (hj : guardSlot ops j = some t) (ht : Nat.blt t n = true) (hb : look F t = some v) (hne : isB v b = false)
    (hd : Nat.blt dd n = true) (hk : AB P n ops k (listed.setIfInBounds i true) (fr (.set dd undef :: F)) E H K) : AB P n ops (k + 1) listed (fr F) E H K :=
  AB.firstNo i hi hB rfl hj ht (by rw [Option.some.inj ((look_fr F t).symm.trans hb)]; exact hne) hd hk
theorem AB.gs {q : Bool} (i : Nat) {j t : Nat} {b : Bool} (hi : ops[i]? = some ⟨some dd, op, ty, pos, aft, some (j, b)⟩) (hB : onlyB ops listed i = true) (hq : (q || barB ops i) = true) (hj : guardSlot ops j = some t) (ht : Nat.blt t n = true) (hb : look F t = some (.bool b))
    (h : Stp q P n (fr F) E H ⟨some dd, op, ty, pos, aft, some (j, b)⟩ fun v H' => AB P n ops k (listed.setIfInBounds i true) (fr (.set dd v :: F)) E H' K) (hd : Nat.blt dd n = true) : AB P n ops (k + 1) listed (fr F) E H K :=
  AB.onlyG i hi hB hq rfl hj ht (Option.some.inj ((look_fr F t).symm.trans hb)) hd h
theorem AB.s {q : Bool} (i : Nat) (hi : ops[i]? = some ⟨some dd, op, ty, pos, aft, none⟩) (hB : onlyB ops listed i = true) (hq : (q || barB ops i) = true)
    (h : Stp q P n (fr F) E H ⟨some dd, op, ty, pos, aft, none⟩ fun v H' => AB P n ops k (listed.setIfInBounds i true) (fr (.set dd v :: F)) E H' K) (hd : Nat.blt dd n = true) : AB P n ops (k + 1) listed (fr F) E H K := AB.only i hi hB hq rfl hd h
theorem AB.e {q : Bool} (i : Nat) (hi : ops[i]? = some ⟨none, op, ty, pos, aft, none⟩) (hB : onlyB ops listed i = true) (hq : (q || barB ops i) = true)
    (h : Stp q P n (fr F) E H ⟨none, op, ty, pos, aft, none⟩ fun _ H' => AB P n ops k (listed.setIfInBounds i true) (fr F) E H' K) : AB P n ops (k + 1) listed (fr F) E H K := AB.only i hi hB hq rfl rfl h
theorem AB.decP (t : Nat) {p : Prop} {_ : Decidable p} (hb : look F t = some (.bool (decide p))) (h1 : p → AB P n ops k listed (fr (.set t (.bool true) :: F)) E H K) (h2 : ¬ p → AB P n ops k listed (fr (.set t (.bool false) :: F)) E H K) : AB P n ops k listed (fr F) E H K := by
  by_cases hp : p
  · rw [fr_decide hb (decide_eq_true hp)]; exact h1 hp
  · rw [fr_decide hb (decide_eq_false hp)]; exact h2 hp
theorem AB.dec (t : Nat) {b : Bool} (hb : look F t = some (.bool b)) (h1 : b = true → AB P n ops k listed (fr (.set t (.bool true) :: F)) E H K) (h2 : b = false → AB P n ops k listed (fr (.set t (.bool false) :: F)) E H K) : AB P n ops k listed (fr F) E H K := by
  cases hc : b with
  | true => rw [fr_decide hb hc]; exact h1 hc
  | false => rw [fr_decide hb hc]; exact h2 hc
end
end Go.Sx
end
section
/- Rows of elements; facts that a state gives. -/
namespace Go.Sx
open Go

/-! ### rows of elements -/
theorem int_eq {k : IntKind} {a b : Int} (h : a = b) : some (Value.int k a) = some (.int k b) := by rw [h]
theorem gm {α : Type} [Inhabited α] {g : α → Value} {xs : List α} {i : Nat} (h : i < xs.length) : (xs.map g)[i * 1]? = some (g xs[i]!) := by
  rw [Nat.mul_one, List.getElem?_map, List.getElem?_eq_getElem h, getElem!_pos xs i h]; rfl
theorem flat_drop {α : Type} {enc : α → List Value} {sz : Nat} (hl : ∀ x, (enc x).length = sz) : ∀ (xs : List α) (i : Nat), (xs.flatMap enc).drop (i * sz) = (xs.drop i).flatMap enc
  | xs, 0 => by simp
  | [], i + 1 => by simp
  | x :: xs, i + 1 => by
    rw [List.flatMap_cons, List.drop_succ_cons, ← flat_drop hl xs i, Nat.succ_mul, Nat.add_comm, List.drop_append, hl]
    simp [List.drop_eq_nil_of_le, hl]
theorem gf {α : Type} [Inhabited α] {enc : α → List Value} {sz : Nat} (hl : ∀ x, (enc x).length = sz) {xs : List α} {i : Nat} (h : i < xs.length) : ((xs.flatMap enc).drop (i * sz)).take sz = enc xs[i]! := by
  rw [flat_drop hl, getElem!_pos xs i h, List.drop_eq_getElem_cons h, List.flatMap_cons, List.take_append_of_le_length (by rw [hl]; exact Nat.le_refl _), List.take_of_length_le (by rw [hl]; exact Nat.le_refl _)]
theorem map_set {α : Type} {g : α → Value} {xs : List α} {i : Nat} {x : α} (h : i < xs.length) : (xs.map g).take (i * 1) ++ [g x] ++ (xs.map g).drop (i * 1 + 1) = (xs.set i x).map g := by
  rw [Nat.mul_one]
  rw [List.map_set, List.set_eq_take_append_cons_drop, if_pos (by simpa using h)]
  simp
theorem all_map {α : Type} {g : α → Value} (h : ∀ x, (g x).oneCell' = true) (xs : List α) : (xs.map g).all (·.oneCell') = true := by
  simp [h]
theorem all_flat {α : Type} {enc : α → List Value} (h : ∀ x, (enc x).all (·.oneCell') = true) (xs : List α) : (xs.flatMap enc).all (·.oneCell') = true := by
  rw [List.all_flatMap, List.all_eq_true]; exact fun x _ => h x
/-! ### what a state gives -/
section
variable {P : Program} {n : Nat} {f : Fr} {E : Env} {H : List HProp} {K : Kont}
theorem Body.pure {c : Code} {p : Prop} (hp : ∀ w, St E H w → p) (h : p → Body P n c f E H K) : Body P n c f E H K := fun w a r d s => h (hp w s) w a r d s
theorem Ops.pure {all : Array Oper} {l : List Oper} {p : Prop} (hp : ∀ w, St E H w → p) (h : p → Ops P n all l f E H K) : Ops P n all l f E H K := fun w a r d s => h (hp w s) w a r d s
theorem AB.pure {ops : Array Oper} {k : Nat} {listed : Array Bool} {p : Prop} (hp : ∀ w, St E H w → p) (h : p → AB P n ops k listed f E H K) : AB P n ops k listed f E H K := fun hc w a r d s => h (hp w s) hc w a r d s
theorem Stp.pure {q : Bool} {o : Oper} {K : Value → List HProp → Prop} {p : Prop} (hp : ∀ w, St E H w → p) (h : p → Stp q P n f E H o K) : Stp q P n f E H o K := fun w a r s => h (hp w s) w a r s
theorem Does.pure {g : FuncId} {args : Array Value} {Q : Value → List HProp → Prop} {p : Prop} (hp : ∀ w, St E H w → p) (h : p → Does P g args E H Q) : Does P g args E H Q := fun w s => h (hp w s) w s
theorem Ops.conseq {all : Array Oper} {l : List Oper} {K : Kont} {H' : List HProp} (hs : ∀ w, St E H w → St E H' w) (h : Ops P n all l f E H' K) : Ops P n all l f E H K := fun w a r d s => h w a r d (hs w s)

section
variable {f : Fr} {d : Option Nat} {ty : TypeId} {pos : String} {aft : Array Edge} {g : Option (Nat × Bool)} {x lo hi : Operand} {t e : TypeId} {sz m : Nat} {v : Value} {vs : List Value} {k1 k2 : IntKind} {a b : Int}
theorem Dtu.slLH (l h : Nat) (ht : P.underlying t = some (.slice e)) (hz : ∀ w, (sizeOf e).run P w = .ok sz w) (hs : Sl E H sz v m vs) (hx : ev f x = v) (hlo : ev f lo = .int k1 a) (hhi : ev f hi = .int k2 b) (ha : a = (l : Int)) (hb : b = (h : Int)) (h1 : l ≤ h) (h2 : h ≤ m) :
    Dtu P n f E H ⟨d, .slice t x (some lo) (some hi) none, ty, pos, aft, g⟩ (subSl v sz l h (capOf v)) := Dtu.slc ht hz hs hx ⟨k1, ha ▸ hlo⟩ ⟨k2, hb ▸ hhi⟩ h1 h2
theorem Dtu.slL (l : Nat) (ht : P.underlying t = some (.slice e)) (hz : ∀ w, (sizeOf e).run P w = .ok sz w) (hs : Sl E H sz v m vs) (hx : ev f x = v) (hlo : ev f lo = .int k1 a) (ha : a = (l : Int)) (h1 : l ≤ m) :
    Dtu P n f E H ⟨d, .slice t x (some lo) none none, ty, pos, aft, g⟩ (subSl v sz l m (capOf v)) := Dtu.slc ht hz hs hx ⟨k1, ha ▸ hlo⟩ rfl h1 (Nat.le_refl _)
theorem Dtu.slH (h : Nat) (ht : P.underlying t = some (.slice e)) (hz : ∀ w, (sizeOf e).run P w = .ok sz w) (hs : Sl E H sz v m vs) (hx : ev f x = v) (hhi : ev f hi = .int k2 b) (hb : b = (h : Int)) (h2 : h ≤ m) :
    Dtu P n f E H ⟨d, .slice t x none (some hi) none, ty, pos, aft, g⟩ (subSl v sz 0 h (capOf v)) := Dtu.slc ht hz hs hx rfl ⟨k2, hb ▸ hhi⟩ (Nat.zero_le _) h2
end
/-- a part of a row of plain elements -/
theorem Sl.subM {α : Type} {gg : α → Value} {xs : List α} {m : Nat} {v : Value} (h : Sl E H 1 v m (xs.map gg)) (lo hi : Nat) (h1 : lo ≤ hi) (h2 : hi ≤ m) : Sl E H 1 (subSl v 1 lo hi (capOf v)) (hi - lo) (((xs.drop lo).take (hi - lo)).map gg) :=
  h.sub' lo hi h1 h2 (by simp only [Nat.mul_one, List.map_take, List.map_drop])
theorem Stp.copyM (i : Nat) {α : Type} {gg : α → Value} {f : Fr} {d : Option Nat} {ty : TypeId} {pos : String} {aft : Array Edge} {g : Option (Nat × Bool)} {x y : Operand} {K : Value → List HProp → Prop} {t t' e tg : TypeId} {m lo dl k : Nat} {v dv u : Value} {xs ys : List α} {H' : List HProp}
    (ht : P.underlying t = some (.slice e)) (hz : ∀ w, (sizeOf e).run P w = .ok 1 w) (hi : H[i]? = some (osl tg 1 v m (xs.map gg))) (hx : ev f x = dv) (hd : LiesIn E H v 1 dv lo dl) (hle2 : lo + dl ≤ m) (hy : ev f y = u) (hs : Sl E H 1 u k (ys.map gg)) (h1 : ∀ x, (gg x).oneCell' = true)
    (hH : setL H i (osl tg 1 v m ((xs.take lo ++ ys.take (Nat.min k dl) ++ xs.drop (lo + Nat.min k dl)).map gg)) = some H') (kk : K (.int .i64 (Nat.min k dl : Nat)) H') :
    Stp false P n f E H ⟨d, .call { callee := .builtin .copy, args := #[x, y], argTypes := #[t, t'] }, ty, pos, aft, g⟩ K := by
  obtain rfl := setL_eq hH
  refine Stp.copy i ht hz hi hx hd hle2 hy hs (all_map h1 _) ?_
  simp only [Nat.mul_one, ← List.map_take, ← List.map_drop, ← List.map_append]
  exact kk

/-- a store into a row of plain elements -/
theorem Stp.storeM (i : Nat) {α : Type} {gg : α → Value} {xs : List α} {k : Nat} {e : α} {f : Fr} {d : Option Nat} {ty : TypeId} {pos : String} {aft : Array Edge} {g : Option (Nat × Bool)} {x y : Operand} {K : Value → List HProp → Prop} {T t : TypeId} {m : Nat} {v : Value} {H' : List HProp}
    (hm : ∀ w, (sizeOf T).run P w = .ok 1 w) (hi : H[i]? = some (osl t 1 v m (xs.map gg))) (hx : ev f x = .pointer (some ⟨blkOf v, offOf v + k * 1, none⟩)) (hy : ev f y = gg e) (hc : ∀ e, (gg e).cells = [gg e].toArray) (h1 : (gg e).oneCell' = true)
    (hl : k < xs.length) (hH : setL H i (osl t 1 v m ((xs.set k e).map gg)) = some H') (kk : K undef H') : Stp false P n f E H ⟨d, .store T x y, ty, pos, aft, g⟩ K := by
  obtain rfl := setL_eq hH
  refine Stp.storeS i (p := k * 1) (us := [gg e]) hm hi hx hy (hc e) (by simp; omega) (by simp) (by simp [h1]) ?_
  rw [show (k * 1 + [gg e].length) = k * 1 + 1 from rfl, map_set hl]
  exact kk

def isNil : Value → Bool
  | .slice none _ _ => true
  | _ => false
theorem Dtu.nilS {t t' e : TypeId} {sz m : Nat} {v : Value} {vs : List Value} {f : Fr} {d : Option Nat} {ty : TypeId} {pos : String} {aft : Array Edge} {g : Option (Nat × Bool)} {x : Operand} (ht : P.underlying t = some (.slice e)) (h : Sl E H sz v m vs) (hx : ev f x = v) :
    Dtu P n f E H ⟨d, .binOp .eql t x (.const (.slice none 0 0)) t', ty, pos, aft, g⟩ (.bool (isNil v)) := fun w0 s w a' r => by
  obtain ⟨_, _, a, e⟩ := (h w0 s).cap
  generalize capOf v = c at e
  subst e
  have e1 : (eqGuard .eql t x (.const (.slice none 0 0)) (.slice a m c) (.slice none 0 0)).run P w = .ok () w := rfl
  have e2 := Lib.run_eql_slice_nil (P := P) w t e a m c 0 0 ht
  have ey : ev f (.const (.slice none 0 0)) = .slice none 0 0 := rfl
  simp only [execOp, r.eval, hx, ey, Sem.run_bind, e1, Result.andThen_ok, e2, Sem.run_pure]
  cases a <;> rfl
theorem Sl.nil0 {sz m : Nat} {v : Value} {vs : List Value} (h : Sl E H sz v m vs) (hn : isNil v = true) : ∀ w, St E H w → m = 0 ∧ vs = [] := fun w s => by
  have k := h w s
  rcases k.val with ⟨rfl, _⟩ | ⟨cap, e, _⟩
  · exact ⟨rfl, List.eq_nil_of_length_eq_zero (by simpa using k.len)⟩
  · rw [e] at hn; cases hn

def IsSl (v : Value) : Prop := ∃ a m c, v = .slice a m c
theorem IsSl.cells {v : Value} (h : IsSl v) : v.cells = [v].toArray := by obtain ⟨a, m, c, rfl⟩ := h; rfl
theorem IsSl.one {v : Value} (h : IsSl v) : v.oneCell' = true := by obtain ⟨a, m, c, rfl⟩ := h; rfl
theorem Sl.isSl {sz m : Nat} {v : Value} {vs : List Value} (h : Sl E H sz v m vs) : ∀ w, St E H w → IsSl v := fun w s => let ⟨_, _, a, e⟩ := (h w s).cap; ⟨a, m, _, e⟩
theorem Sl.len {sz m : Nat} {v : Value} {vs : List Value} (h : Sl E H sz v m vs) : ∀ w, St E H w → vs.length = m * sz ∧ m ≤ 9223372036854775807 := fun w s => ⟨(h w s).len, by have := (h w s).max; simpa [maxLen] using this⟩
theorem Stp.buildSlice0 {f : Fr} {d : Option Nat} {ty : TypeId} {pos : String} {aft : Array Edge} {g : Option (Nat × Bool)} {T e : TypeId} {sz bytes : Nat} {zs : List Value} {K : Value → List HProp → Prop} (hu : P.underlying T = some (.slice e)) (ht : Ty P e sz bytes zs)
    (k : ∀ b, K (.slice (some ⟨b, 0, none⟩) 0 0) H) : Stp true P n f E H ⟨d, .buildSlice T 0 #[], ty, pos, aft, g⟩ K := fun w a r s => by
  obtain ⟨s2, x⟩ := s.alloc [] e
  have e2 : (execOp a.eval ⟨d, .buildSlice T 0 #[], ty, pos, aft, g⟩).run P w = .ok (.value (.slice (some ⟨w.heap.size, 0, none⟩) 0 0)) { w with heap := w.heap.push (.cells ([] : List Value).toArray e (0, 0)) } := by
    have hr : Array.range 0 = #[] := Array.eq_empty_of_size_eq_zero (by simp)
    simp [execOp, Instr.buildSlice, run_underlying hu, ht.size, newRow, Instr.fill, hr]
  unfold OpR; rw [e2]
  exact ⟨fun _ => x, _, k _, s2.drop⟩
end
section
variable {P : Program} {n : Nat} {f : Fr} {E : Env} {H : List HProp} {d : Option Nat} {ty : TypeId} {pos : String} {aft : Array Edge} {g : Option (Nat × Bool)} {x y z : Operand}
/-- a []byte, as a text -/
theorem Det.bstr {t t' e : TypeId} {v : Value} {m : Nat} {ns : List Int} (hs : P.underlying t = some (.slice e)) (he : P.underlying e = some (.int .u8)) (hd : P.underlying t' = some .string) (hx : ev f x = v) (h : Sl E H 1 v m (ns.map (.int .u8))) :
    Det P n f E H ⟨d, .convert t t' x, ty, pos, aft, g⟩ (.string (strOfNums ns)) := fun w a r s => by
  have q := h w s
  have hl : ns.length = m := by have := q.len; simpa using this
  have key : (convert t t' v).run P w = .ok (.string (strOfNums ns)) w := by
    rcases q.val with ⟨rfl, a, c, rfl, _⟩ | ⟨cap, hv, _, _, hc⟩
    · have : ns = [] := List.length_eq_zero_iff.1 hl
      subst this
      cases a with
      | none => exact run_convert_bytes_nil w t e hs he 0 c t' hd
      | some a =>
        rw [run_convert_bytes_string w t t' e _ 0 c hs he hd, run_bytesToString w a 0 c [] (by simpa using run_loadCells_list (P := P) w a [] (fun j v hj => by simp at hj))]
        rfl
    · rw [hv]
      exact run_convert_bytes_arg w t e hs he _ _ m cap ns hl (fun i hi => by
        have := hc i (.int .u8 (ns.getD i 0)) (by simp [List.getElem?_map, List.getD, List.getElem?_eq_getElem (show i < ns.length by omega)])
        exact this) t' hd
  simp only [execOp, r.eval, hx, run_v, key, Result.andThen_ok]
end
end Go.Sx
end
section
/- My own logic of ownership over the model, part A: where several operations may come up next. -/
namespace Go.Sx
open Go
set_option linter.unusedVariables false
section
variable {P : Program} {n : Nat} {f : Fr} {E : Env} {H : List HProp} {K : Kont} {ops : Array Oper} {k : Nat} {listed : Array Bool} {F : List Ent} {dd : Nat} {op : Op} {ty : TypeId} {pos : String} {aft : Array Edge}
/-- i comes up next -/
def ABI (P : Program) (n : Nat) (ops : Array Oper) (k : Nat) (listed : Array Bool) (f : Fr) (E : Env) (H : List HProp) (K : Kont) (i : Nat) : Prop :=
  Closed ops listed → i ∈ Region.ready .any ops listed → ∀ w a, Rel n f a.tmps → a.defers = [] → St E H w → OpI P ops i a w fun a' w' => (Ext w w' ∨ Bar ops i) ∧ AnyX P ops (Post n E K) k (listed.setIfInBounds i true) a' w'
/-- each of these may come up next -/
def ABs (P : Program) (n : Nat) (ops : Array Oper) (k : Nat) (listed : Array Bool) (f : Fr) (E : Env) (H : List HProp) (K : Kont) : List Nat → Prop
  | [] => True
  | i :: r => ABI P n ops k listed f E H K i ∧ ABs P n ops k listed f E H K r
theorem ABs.get : ∀ {is : List Nat} {i : Nat}, ABs P n ops k listed f E H K is → i ∈ is → ABI P n ops k listed f E H K i
  | _ :: _, _, h, .head _ => h.1
  | _ :: _, _, h, .tail _ m => ABs.get h.2 m
theorem AB.more (is : List Nat) (hB : (Region.ready .any ops listed == is) = true) (hne : is.isEmpty = false) (h : ABs P n ops k listed f E H K is) : AB P n ops (k + 1) listed f E H K := fun hc w a r d s => by
  have hr : Region.ready .any ops listed = is := by simpa using hB
  refine ⟨fun e => ?_, fun j hj => ?_⟩
  · rw [hr] at e; rw [e] at hne; simp at hne
  · exact ABs.get h (hr ▸ hj) hc hj w a r d s
theorem ABI.mk {q : Bool} {i : Nat} {o : Oper} (hi : ops[i]? = some o) (hq : (q || barB ops i) = true) (hg : o.guard = none) (hd : okD n o.dst = true)
    (h : Stp q P n f E H o fun v H' => AB P n ops k (listed.setIfInBounds i true) (updO f o.dst v) E H' K) : ABI P n ops k listed f E H K i := fun hc hmem w a r d s => by
  unfold OpI
  simp only [hi]
  rw [if_pos (wanted_none hg _)]
  refine (h w a r s).mono ?_
  rintro v w' ⟨x, H', kk, s'⟩
  refine ⟨?_, kk (hc.set hmem) w' _ (r.put hd v) ((put_defers _ _ _).trans d) s'⟩
  cases q with
  | true => exact .inl (x rfl)
  | false => exact .inr (bar_of (by simpa using hq))
theorem ABI.s {q : Bool} {i : Nat} (hi : ops[i]? = some ⟨some dd, op, ty, pos, aft, none⟩) (hq : (q || barB ops i) = true)
    (h : Stp q P n (fr F) E H ⟨some dd, op, ty, pos, aft, none⟩ fun v H' => AB P n ops k (listed.setIfInBounds i true) (fr (.set dd v :: F)) E H' K) (hd : Nat.blt dd n = true) : ABI P n ops k listed (fr F) E H K i := ABI.mk hi hq rfl hd h
theorem ABI.e {q : Bool} {i : Nat} (hi : ops[i]? = some ⟨none, op, ty, pos, aft, none⟩) (hq : (q || barB ops i) = true)
    (h : Stp q P n (fr F) E H ⟨none, op, ty, pos, aft, none⟩ fun _ H' => AB P n ops k (listed.setIfInBounds i true) (fr F) E H' K) : ABI P n ops k listed (fr F) E H K i := ABI.mk hi hq rfl rfl h
end
end Go.Sx
end
section
/- My own logic of ownership over the model, part B: as many owned things as a list has, as one. -/
namespace Go.Sx
open Go
set_option linter.unusedVariables false
/-- all of these are owned -/
def many (L : List HProp) : HProp := fun h => Sat L h
theorem many_iff {E : Env} {L H : List HProp} {w : World} : St E (many L :: H) w ↔ St E (L ++ H) w := by
  constructor
  · intro s
    obtain ⟨h, ⟨h1, h2, a, b, c, d⟩, dE, l⟩ := s.has
    exact ⟨⟨h, Sat.append.2 ⟨h1, h2, a, b, c, d⟩, dE, l⟩, s.keep, s.os, s.tape, s.output⟩
  · intro s
    obtain ⟨h, hs, dE, l⟩ := s.has
    obtain ⟨h1, h2, a, b, c, d⟩ := Sat.append.1 hs
    exact ⟨⟨h, ⟨h1, h2, a, b, c, d⟩, dE, l⟩, s.keep, s.os, s.tape, s.output⟩
theorem many_nil {E : Env} {H : List HProp} {w : World} (s : St E H w) : St E (many [] :: H) w := many_iff.2 s
theorem many_snoc {E : Env} {A : HProp} {L H : List HProp} {w : World} (s : St E (A :: many L :: H) w) : St E (many (L ++ [A]) :: H) w := by
  have s1 : St E (L ++ (A :: H)) w := many_iff.1 (s.perm (List.Perm.swap _ _ _))
  rw [many_iff]
  simpa using s1
theorem Sl.many {E : Env} {H L : List HProp} {t : TypeId} {sz m : Nat} {v : Value} {vs : List Value} (i j : Nat) (hi : H[i]? = some (Sx.many L)) (hj : L[j]? = some (Sx.osl t sz v m vs)) : Sl E H sz v m vs := fun w s => by
  have s1 := many_iff.1 (s.get hi)
  have hj2 : (L ++ H.eraseIdx i)[j]? = some (Sx.osl t sz v m vs) := by
    rw [List.getElem?_append_left (List.getElem?_eq_some_iff.1 hj).1]; exact hj
  exact Sl.osl (E := E) (H := L ++ H.eraseIdx i) j hj2 w s1
theorem Sl.litLen {E : Env} {H : List HProp} {sz m k c : Nat} {a : Option Addr} {vs : List Value} (h : Sl E H sz (.slice a m c) k vs) : ∀ w, St E H w → m = k := fun w s => by
  rcases (h w s).val with ⟨rfl, a', c', e, _⟩ | ⟨cap, e, _⟩
  · injection e
  · injection e
section
variable {P : Program} {n : Nat} {E : Env} {H : List HProp} {K : Kont} {F : List Ent}
theorem Round.goW {γ : Type} {W : List Nat} {L : γ → List (Nat × Value)} {Hs : γ → List HProp} {Φ : γ → Prop} {μ : γ → Nat} {F0 : List Ent} {g : γ} {u : Fr} {A : List Ent} (g' : γ) (_hs : splitF F0.length F = some A) (hF : F = A ++ .many W u :: F0) (hA : inW W A = true) (hL : LookAll F (L g')) (hH : ∀ w, St E H w → St E (Hs g') w) (h : Φ g') (hm : μ g' < μ g) :
    Round (HeadF W L Hs Φ F0 E) μ g K .norm (fr F) H := by
  subst hF
  refine ⟨g', ⟨h, hH, fr (A ++ .many W u :: F0), ?_⟩, hm⟩
  funext t
  exact (fr_sets (F := A ++ .many W u :: F0) (L g') hL (fun t => fr_many A hA t) t).symm
theorem Joint.goW {γ : Type} {W : List Nat} {L : γ → List (Nat × Value)} {Hs : γ → List HProp} {Φ : γ → Prop} {F0 : List Ent} {A : List Ent} (g' : γ) (_hs : splitJ F0.length F = some A) (hF : F = A ++ F0) (hA : inW W A = true) (hL : LookAll F (L g')) (hH : ∀ w, St E H w → St E (Hs g') w) (h : Φ g') :
    Joint (fun f H => ∃ g, HeadF W L Hs Φ F0 E g f H) K .norm (fr F) H := by
  subst hF
  refine ⟨g', h, hH, fr (A ++ F0), ?_⟩
  funext t
  refine (fr_sets (F := A ++ F0) (L g') hL (fun t => ?_) t).symm
  simp only [fr, mix]
  cases hW : W.any (Nat.beq t) with
  | true => rfl
  | false => rw [cond_false]; exact (fr_out hW A hA).symm
end
end Go.Sx
end
section
/- My own logic of ownership over the model, part C: texts as bytes; functions that hold variables. -/
namespace Go.Sx
open Go
set_option linter.unusedVariables false
/-- an object more -/
theorem St.more {E : Env} {H : List HProp} {w w' : World} (s : St E H w) (o : Obj) (A : HProp) (hA : A (Hp.one w.heap.size o)) (hold : ∀ j, j < w.heap.size → w'.heap[j]? = w.heap[j]?) (hnew : w'.heap[w.heap.size]? = some o) (hos : w'.os = w.os) (htape : w'.tape = w.tape) (hout : w'.output = w.output) :
    St E (A :: H) w' ∧ Ext w w' := by
  have hn : hpOf w w.heap.size = none := by simp [hpOf]
  have hle : (hpOf w).Le (hpOf w') := by
    intro n o' h
    have hlt : n < w.heap.size := by
      have : w.heap[n]? = some o' := h
      exact (Array.getElem?_eq_some_iff.1 this).1
    show w'.heap[n]? = some o'
    rw [hold n hlt]; exact h
  obtain ⟨h, a, dE, l⟩ := s.has
  have dn : ∀ x : Hp, x.Le (hpOf w) → (Hp.one w.heap.size o).Disj x := fun x lx => Hp.one_disj (by
    cases hx : x w.heap.size with
    | none => rfl
    | some o => have := lx _ _ hx; rw [hn] at this; cases this)
  refine ⟨⟨⟨(Hp.one w.heap.size o).union h, ⟨_, h, hA, a, dn h l, rfl⟩, Hp.Disj.union_right (dn _ s.keep).symm dE, Hp.union_le (Hp.one_le hnew) (l.trans hle)⟩,
    s.keep.trans hle, hos.trans s.os, htape.trans s.tape, hout.trans s.output⟩, ⟨hle, hos, htape, hout⟩⟩
section
variable {P : Program} {n : Nat} {f : Fr} {E : Env} {H : List HProp} {d : Option Nat} {ty : TypeId} {pos : String} {aft : Array Edge} {g : Option (Nat × Bool)} {x y z : Operand} {K : Value → List HProp → Prop}
end
end Go.Sx
end
section
/- My own logic of ownership over the model, part D: open order where reads and stores may change places. -/
namespace Go.Sx
open Go
set_option linter.unusedVariables false
def AnyW (P : Program) (ops : Array Oper) (Q : Exit → Act → World → Prop) : Nat → Array Bool → Act → World → Prop
  | 0, listed, a, w => Region.ready .any ops listed = [] ∧ Q .normal a w
  | k + 1, listed, a, w => (Region.ready .any ops listed = [] → Q .normal a w) ∧
    ∀ i ∈ Region.ready .any ops listed, OpI P ops i a w fun a' w' => AnyW P ops Q k (listed.setIfInBounds i true) a' w'
theorem AnyW.wpAny {P : Program} {ops : Array Oper} {Q : Exit → Act → World → Prop} : ∀ (k : Nat) (listed : Array Bool) (a : Act) (w : World), AnyW P ops Q k listed a w → Go.wpAny P .any ops Q k listed a w
  | 0, _, _, _, h => h
  | k + 1, _, _, _, h => ⟨h.1, fun i hi => ((h.2 i hi).mono fun _ _ q => AnyW.wpAny k _ _ _ q).wpOp⟩
theorem AnyW.firstU {P : Program} {ops : Array Oper} {Q : Exit → Act → World → Prop} {i : Nat} {oi : Oper} {v : Value} (hi : ops[i]? = some oi) (hsel : ∀ (j : Nat) (o : Oper) cs b, ops[j]? = some o → o.op ≠ .select cs b) :
    ∀ (fuel : Nat) (listed : Array Bool) (a : Act) (w : World),
      (∀ j oj, ops[j]? = some oj → j ≠ i → listed.getD j true = false → (∀ e ∈ oj.after, Region.binds .any e = true → e.on ≠ i) → oi.apart ops oj = true) →
      i ∈ Region.ready .any ops listed → Yields P ops oi v a →
      AnyW P ops Q fuel (listed.setIfInBounds i true) (a.put oi.dst v) w → AnyW P ops Q (fuel + 1) listed a w := by
  intro fuel
  induction fuel with
  | zero =>
    intro listed a w _ hr hy H
    refine ⟨fun h => (by rw [h] at hr; cases hr), fun j hj => ?_⟩
    by_cases hji : j = i
    · subst hji; exact yieldsU_opI hi hy H
    · have := ready_mono hj hji
      rw [H.1] at this
      cases this
  | succ fuel ih =>
    intro listed a w hfree hr hy H
    refine ⟨fun h => (by rw [h] at hr; cases hr), fun j hj => ?_⟩
    by_cases hji : j = i
    · subst hji; exact yieldsU_opI hi hy H
    · have h1 := H.2 j (ready_mono hj hji)
      obtain ⟨hjun, oj, hoj, hall⟩ := mem_ready.1 hj
      have hnot : ∀ e ∈ oj.after, Region.binds .any e = true → e.on ≠ i := fun e he hb heq => by
        have h1 := hall e he hb
        rw [heq] at h1
        exact getD_tf (mem_ready.1 hr).1 h1
      have h2 := OpI.putU hoj (hfree j oj hoj hji hjun hnot) (fun cs b => hsel i oi cs b hi) (fun cs b => hsel j oj cs b hoj) hy h1
      have hfree' : ∀ k ok, ops[k]? = some ok → k ≠ i → (listed.setIfInBounds j true).getD k true = false →
          (∀ e ∈ ok.after, Region.binds .any e = true → e.on ≠ i) → oi.apart ops ok = true := fun k ok hk hki hun hno => by
        refine hfree k ok hk hki ?_ hno
        by_cases hjk : j = k
        · subst hjk; exact hjun
        · rw [getD_set_ne true hjk] at hun; exact hun
      refine h2.mono fun a' w' ⟨hy', h3⟩ => ih (listed.setIfInBounds j true) a' w' hfree' (ready_mono hr (Ne.symm hji)) hy' ?_
      rw [Array.setIfInBounds_comm _ _ hji]
      exact h3
/-- what is left of a region, in whatever order -/
def AW (P : Program) (n : Nat) (ops : Array Oper) (k : Nat) (listed : Array Bool) (f : Fr) (E : Env) (H : List HProp) (K : Kont) : Prop :=
  ∀ w a, Rel n f a.tmps → a.defers = [] → St E H w → AnyW P ops (Post n E K) k listed a w
section
variable {P : Program} {n : Nat} {f : Fr} {E : Env} {H : List HProp} {K : Kont} {ops : Array Oper} {k : Nat} {listed : Array Bool} {F : List Ent} {dd : Nat} {op : Op} {ty : TypeId} {pos : String} {aft : Array Edge} {v : Value}
theorem AW.done (hr : (Region.ready .any ops listed).isEmpty = true) (h : K .norm f H) : AW P n ops k listed f E H K := fun w a r d s => by
  have hr' : Region.ready .any ops listed = [] := by simpa using hr
  cases k with
  | zero => exact ⟨hr', d, f, H, r, h, s⟩
  | succ k => exact ⟨fun _ => ⟨d, f, H, r, h, s⟩, fun i hi => by rw [hr'] at hi; cases hi⟩
theorem AW.firstU (i : Nat) {o : Oper} {v : Value} (hi : ops[i]? = some o) (hB : firstB ops listed i = true) (hg : o.guard = none) (hd : okD n o.dst = true) (h : Dtu P n f E H o v)
    (hk : AW P n ops k (listed.setIfInBounds i true) (updO f o.dst v) E H K) : AW P n ops (k + 1) listed f E H K := fun w a r d s => by
  simp only [firstB, Bool.and_eq_true] at hB
  have hr : i ∈ Region.ready .any ops listed := by simpa using hB.1.2
  exact AnyW.firstU hi (Region.noSelect_spec hB.1.1) k listed a w (Region.free_spec hi hB.2) hr (.inl ⟨wanted_none hg _, fun w' => h w s w' a r⟩)
    (hk w _ (r.put hd v) ((put_defers _ _ _).trans d) s)
theorem AW.u (i : Nat) (hi : ops[i]? = some ⟨some dd, op, ty, pos, aft, none⟩) (hB : firstB ops listed i = true) (h : Dtu P n (fr F) E H ⟨some dd, op, ty, pos, aft, none⟩ v) (hd : Nat.blt dd n = true)
    (hk : AW P n ops k (listed.setIfInBounds i true) (fr (.set dd v :: F)) E H K) : AW P n ops (k + 1) listed (fr F) E H K := AW.firstU i hi hB rfl hd h hk
/-- i comes up next -/
def AWI (P : Program) (n : Nat) (ops : Array Oper) (k : Nat) (listed : Array Bool) (f : Fr) (E : Env) (H : List HProp) (K : Kont) (i : Nat) : Prop :=
  ∀ w a, Rel n f a.tmps → a.defers = [] → St E H w → OpI P ops i a w fun a' w' => AnyW P ops (Post n E K) k (listed.setIfInBounds i true) a' w'
/-- each of these may come up next -/
def AWs (P : Program) (n : Nat) (ops : Array Oper) (k : Nat) (listed : Array Bool) (f : Fr) (E : Env) (H : List HProp) (K : Kont) : List Nat → Prop
  | [] => True
  | i :: r => AWI P n ops k listed f E H K i ∧ AWs P n ops k listed f E H K r
theorem AWs.get : ∀ {is : List Nat} {i : Nat}, AWs P n ops k listed f E H K is → i ∈ is → AWI P n ops k listed f E H K i
  | _ :: _, _, h, .head _ => h.1
  | _ :: _, _, h, .tail _ m => AWs.get h.2 m
theorem AW.more (is : List Nat) (hB : (Region.ready .any ops listed == is) = true) (hne : is.isEmpty = false) (h : AWs P n ops k listed f E H K is) : AW P n ops (k + 1) listed f E H K := fun w a r d s => by
  have hr : Region.ready .any ops listed = is := by simpa using hB
  refine ⟨fun e => ?_, fun j hj => ?_⟩
  · rw [hr] at e; rw [e] at hne; simp at hne
  · exact AWs.get h (hr ▸ hj) w a r d s
theorem AWI.mk {q : Bool} {i : Nat} {o : Oper} (hi : ops[i]? = some o) (hg : o.guard = none) (hd : okD n o.dst = true)
    (h : Stp q P n f E H o fun v H' => AW P n ops k (listed.setIfInBounds i true) (updO f o.dst v) E H' K) : AWI P n ops k listed f E H K i := fun w a r d s => by
  unfold OpI
  simp only [hi]
  rw [if_pos (wanted_none hg _)]
  refine (h w a r s).mono ?_
  rintro v w' ⟨x, H', kk, s'⟩
  exact kk w' _ (r.put hd v) ((put_defers _ _ _).trans d) s'
theorem AWI.d {i : Nat} (hi : ops[i]? = some ⟨some dd, op, ty, pos, aft, none⟩) (h : Det P n (fr F) E H ⟨some dd, op, ty, pos, aft, none⟩ v) (hd : Nat.blt dd n = true)
    (hk : AW P n ops k (listed.setIfInBounds i true) (fr (.set dd v :: F)) E H K) : AWI P n ops k listed (fr F) E H K i := AWI.mk hi rfl hd (Det.stp h hk)
theorem AWI.e {q : Bool} {i : Nat} (hi : ops[i]? = some ⟨none, op, ty, pos, aft, none⟩)
    (h : Stp q P n (fr F) E H ⟨none, op, ty, pos, aft, none⟩ fun _ H' => AW P n ops k (listed.setIfInBounds i true) (fr F) E H' K) : AWI P n ops k listed (fr F) E H K i := AWI.mk hi rfl rfl h
end
end Go.Sx
end
section
/- My own logic of ownership over the model, part E: owned slices that are only read, or nil; slices of structs that come in. -/
namespace Go.Sx
open Go Go.ChangeShapes
set_option linter.unusedVariables false
theorem Sl.lit {E : Env} {H : List HProp} {sz m k c : Nat} {a : Option Addr} {vs : List Value} (h : Sl E H sz (.slice a m c) k vs) : ∀ w, St E H w → m = k ∧ k ≤ c ∧ c ≤ 9223372036854775807 := fun w s => by
  obtain ⟨h1, h2, _⟩ := (h w s).cap
  simp only [capOf] at h1 h2
  exact ⟨Sl.litLen h w s, h1, by unfold maxLen at h2; exact h2⟩
section
variable {P : Program} {n : Nat} {f : Fr} {E : Env} {H : List HProp}
theorem AB.conseq {ops : Array Oper} {k : Nat} {listed : Array Bool} {K : Kont} {H' : List HProp} (hs : ∀ w, St E H w → St E H' w) (h : AB P n ops k listed f E H' K) : AB P n ops k listed f E H K := fun hc w a r d s => h hc w a r d (hs w s)
theorem Does.conseq {g : FuncId} {args : Array Value} {Q : Value → List HProp → Prop} {H' : List HProp} (hs : ∀ w, St E H w → St E H' w) (h : Does P g args E H' Q) : Does P g args E H Q := fun w s => h w (hs w s)
end
section
variable {P : Program} {n : Nat} {f : Fr} {E : Env} {H : List HProp} {d : Option Nat} {ty : TypeId} {pos : String} {aft : Array Edge} {g : Option (Nat × Bool)} {x lo hi mx : Operand} {t e : TypeId} {sz m : Nat} {v : Value} {vs : List Value} {k1 k2 k3 : IntKind} {a b c : Int}
theorem Dtu.slHM (h c3 : Nat) (ht : P.underlying t = some (.slice e)) (hz : ∀ w, (sizeOf e).run P w = .ok sz w) (hs : Sl E H sz v m vs) (hx : ev f x = v) (hhi : ev f hi = .int k2 b) (hmx : ev f mx = .int k3 c) (hb : b = (h : Int)) (hc : c = (c3 : Int)) (h2 : h ≤ c3) (h3 : c3 ≤ m) :
    Dtu P n f E H ⟨d, .slice t x none (some hi) (some mx), ty, pos, aft, g⟩ (subSl v sz 0 h c3) := Dtu.slc3' ht hz hs hx (hb ▸ hhi) (hc ▸ hmx) h2 h3
theorem Dtu.slLHM (l h c3 : Nat) (ht : P.underlying t = some (.slice e)) (hz : ∀ w, (sizeOf e).run P w = .ok sz w) (hs : Sl E H sz v m vs) (hx : ev f x = v) (hlo : ev f lo = .int k1 a) (hhi : ev f hi = .int k2 b) (hmx : ev f mx = .int k3 c) (ha : a = (l : Int)) (hb : b = (h : Int)) (hc : c = (c3 : Int)) (h1 : l ≤ h) (h2 : h ≤ c3) (h3 : c3 ≤ m) :
    Dtu P n f E H ⟨d, .slice t x (some lo) (some hi) (some mx), ty, pos, aft, g⟩ (subSl v sz l h c3) := Dtu.slc3 ht hz hs hx (ha ▸ hlo) (hb ▸ hhi) (hc ▸ hmx) h1 h2 h3
end
section
variable {P : Program} {n : Nat} {f : Fr} {E : Env} {H : List HProp} {K : Kont} {ops : Array Oper} {k : Nat} {listed : Array Bool} {F : List Ent} {dd : Nat} {op : Op} {ty : TypeId} {pos : String} {aft : Array Edge} {v : Value}
theorem AWI.s {q : Bool} {i : Nat} (hi : ops[i]? = some ⟨some dd, op, ty, pos, aft, none⟩) (h : Stp q P n (fr F) E H ⟨some dd, op, ty, pos, aft, none⟩ fun v H' => AW P n ops k (listed.setIfInBounds i true) (fr (.set dd v :: F)) E H' K) (hd : Nat.blt dd n = true) : AWI P n ops k listed (fr F) E H K i := AWI.mk hi rfl hd h
theorem AW.pure {p : Prop} (hp : ∀ w, St E H w → p) (h : p → AW P n ops k listed f E H K) : AW P n ops k listed f E H K := fun w a r d s => h (hp w s) w a r d s
theorem AW.conseq {H' : List HProp} (hs : ∀ w, St E H w → St E H' w) (h : AW P n ops k listed f E H' K) : AW P n ops k listed f E H K := fun w a r d s => h w a r d (hs w s)
end
section
variable {P : Program} {n : Nat} {f : Fr} {E : Env} {H : List HProp}
end
/-- what was there, a row of cells of it -/
theorem Rds.at {E : Env} {H : List HProp} {b off m : Nat} {vs us : List Value} {t : TypeId} (h : At (own b vs t) E) (hv : forceL ((vs.drop off).take m) = some us) : Rds E H b off us := fun j u hj => by
  obtain rfl := forceL_eq hv
  refine Rd.env (own_at h ?_)
  rw [List.getElem?_take] at hj
  split at hj
  · rw [List.getElem?_drop] at hj; exact hj
  · cases hj
section
variable {P : Program} {n : Nat} {f : Fr} {E : Env} {H : List HProp} {d : Option Nat} {ty : TypeId} {pos : String} {aft : Array Edge} {g : Option (Nat × Bool)} {x y : Operand} {K : Value → List HProp → Prop}
end
/-! ### what comes in -/
section
variable {P : Program} {A : Type} {enc : TypeId × Value → A} {W : World} {base : Nat} {held : Bool} {fuel : Nat} {cs : List Value} {x : DataW A × List MemPlace}
theorem slNone' (E : Env) (sz : Nat) : Sl E [] sz (.slice none 0 0) 0 [] := Sl.nil
theorem keepCell {E : Env} {Hs : List HProp} {w' : World} (s : St (envOf W) Hs w') {a : Addr} {v : Value} (h : W.cell? a = some v) : w'.cell? a = some v := by
  unfold World.cell? at h ⊢
  cases hb : W.heap[a.block]? with
  | none => rw [hb] at h; cases h
  | some o =>
    have hk : w'.heap[a.block]? = some o := s.keep _ _ hb
    rw [hb] at h; rw [hk]; exact h
theorem spotNone {a : Addr} {v : Value} (h : W.cell? a = some v) : a.spot = none := by
  unfold World.cell? at h
  split at h
  · split at h
    · cases h
    · rename_i h1; simpa using h1
  · cases h
theorem flatLen {α : Type} {en : α → List Value} {sz : Nat} (hl : ∀ x, (en x).length = sz) (l : List α) : (l.flatMap en).length = l.length * sz := by
  induction l with
  | nil => simp
  | cons c t ih => rw [List.flatMap_cons, List.length_append, ih, hl, List.length_cons, Nat.add_mul, Nat.one_mul, Nat.add_comm]
/-- a slice whose elements are structs -/
theorem trod_list {α : Type} [Inhabited α] {en : α → List Value} {sz : Nat} {T e : TypeId} {Q : α → Prop} (hT : P.underlying T = some (.slice e)) (hsz : P.cellsOf e = sz) (hpos : 0 < sz) (hlen : ∀ x, (en x).length = sz)
    (hel : ∀ {fuel : Nat} {cs : List Value} {x : DataW A × List MemPlace}, DataW.trod enc P W base (fun _ => true) held fuel e cs = some x → ∃ c : α, cs = en c ∧ Q c)
    (h : DataW.trod enc P W base (fun _ => true) held fuel T cs = some x) : ∃ (s : Value) (l : List α), cs = [s] ∧ Sl (envOf W) [] sz s l.length (l.flatMap en) ∧ ∀ c ∈ l, Q c := by
  rcases Go.Deep.open_slice hT h with ⟨rfl, _⟩ | ⟨a, len, cap, m, n, D, Pl, rfl, hb, hl, hm, hmm, _, hx⟩
  · exact ⟨_, [], rfl, slNone' _ sz, by simp⟩
  · simp only [if_true] at hmm
    subst hmm
    have hc : ∀ i, i < m → ∃ c : α, (∀ j, j < sz → W.cell? (a.add (i * sz + j)) = (en c)[j]?) ∧ Q c := fun i hi => by
      obtain ⟨cs', h1, h2⟩ := hx i hi
      rw [hsz] at h1
      obtain ⟨_, _, h3⟩ := World.cells?_some h1
      obtain ⟨c, rfl, hin⟩ := hel h2
      refine ⟨c, fun j hj => ?_, hin⟩
      have := h3 j hj
      rwa [Go.Deep.add_add] at this
    have : ∃ f : Nat → α, ∀ i, i < m → (∀ j, j < sz → W.cell? (a.add (i * sz + j)) = (en (f i))[j]?) ∧ Q (f i) :=
      ⟨fun i => if h : i < m then Classical.choose (hc i h) else default, fun i hi => by dsimp only; rw [dif_pos hi]; exact Classical.choose_spec (hc i hi)⟩
    obtain ⟨f, hf⟩ := this
    refine ⟨_, (List.range len).map f, rfl, ?_, ?_⟩
    · have e1 : ((List.range len).map f).length = len := by simp
      rw [e1]
      intro w' s
      by_cases h0 : len = 0
      · subst h0
        exact ⟨by simp, by simp, .inl ⟨rfl, some a, m, rfl, hm⟩⟩
      · have hz0 : ∃ v, (en (f 0))[0]? = some v := by
          have := hlen (f 0)
          exact ⟨(en (f 0))[0]'(by omega), List.getElem?_eq_getElem (by omega)⟩
        obtain ⟨v00, hv00⟩ := hz0
        have h00 := (hf 0 (by omega)).1 0 hpos
        rw [hv00] at h00
        have hspot : a.spot = none := by
          have e : a.add (0 * sz + 0) = a := by simp [Addr.add]
          rw [e] at h00
          exact spotNone h00
        obtain ⟨b, off, spot⟩ := a
        dsimp only at hspot
        subst hspot
        refine ⟨by rw [flatLen hlen, e1], by omega, .inr ⟨m, rfl, hl, hm, fun j u hj => ?_⟩⟩
        have hjl : j < len * sz := by
          have := (List.getElem?_eq_some_iff.1 hj).1
          rw [flatLen hlen, e1] at this
          exact this
        have hq : j / sz < len := Nat.div_lt_of_lt_mul (by rw [Nat.mul_comm]; exact hjl)
        have hr : j % sz < sz := Nat.mod_lt _ hpos
        have hqr : j / sz * sz + j % sz = j := Nat.div_add_mod' j sz
        have hg := gf (enc := en) (sz := sz) hlen (xs := (List.range len).map f) (i := j / sz) (by simp; omega)
        have hi : ((List.range len).map f)[j / sz]! = f (j / sz) := by
          rw [getElem!_pos _ _ (by simp; omega)]; simp
        rw [hi] at hg
        have hu : (en (f (j / sz)))[j % sz]? = some u := by
          rw [← hg, List.getElem?_take_of_lt hr, List.getElem?_drop, hqr]; exact hj
        have h2 := (hf (j / sz) (by omega)).1 (j % sz) hr
        rw [hu, addr_add, hqr] at h2
        exact keepCell (E := envOf W) s h2
    · intro c hc'
      simp only [List.mem_map, List.mem_range] at hc'
      obtain ⟨i, hi, rfl⟩ := hc'
      exact (hf i (by omega)).2
end
end Go.Sx
end
section
/- My own logic of ownership over the model, part F: calls gone through in place; loops told by what changes. -/
namespace Go.Sx
open Go
set_option linter.unusedVariables false
/-- where a call that is gone through in place goes on -/
def RetK (P : Program) (E : Env) (rs : List ResultVar) (K : Value → List HProp → Prop) : Kont
  | .norm, f, H => ResK P f E H rs fun vs => K (mkRes vs) H
  | .ret, f, H => ResK P f E H rs fun vs => K (mkRes vs) H
  | .exit _, _, _ => False
theorem ResK.mono {P : Program} {f : Fr} {E : Env} {H : List HProp} : ∀ {rs : List ResultVar} {K K' : List Value → Prop}, ResK P f E H rs K → (∀ vs, K vs → K' vs) → ResK P f E H rs K'
  | [], _, _, h, k => k _ h
  | .tmp t :: rs, _, _, h, k => ResK.mono (rs := rs) h fun vs => k _
  | .cell a T :: rs, _, _, ⟨v, hl, h⟩, k => ⟨v, hl, ResK.mono (rs := rs) h fun vs => k _⟩
/-- one result -/
def RV (P : Program) (F : List Ent) (E : Env) (H : List HProp) : ResultVar → Value → Prop
  | .tmp t, v => look F t = some v
  | .cell a T, v => ∃ u, look F a = some u ∧ Loads P T u v E H
theorem RV.resK {P : Program} {F : List Ent} {E : Env} {H : List HProp} {x : ResultVar} {v : Value} {rs : List ResultVar} {K : List Value → Prop} (h1 : RV P F E H x v) (h : ResK P (fr F) E H rs fun vs => K (v :: vs)) : ResK P (fr F) E H (x :: rs) K := by
  cases x with
  | tmp t =>
    have e : fr F t = v := by have := look_fr F t; rw [show look F t = some v from h1] at this; exact (Option.some.inj this).symm
    show ResK P (fr F) E H rs fun vs => K (fr F t :: vs)
    rw [e]; exact h
  | cell a T =>
    obtain ⟨u, hu, hl⟩ := h1
    have e : fr F a = u := by have := look_fr F a; rw [hu] at this; exact (Option.some.inj this).symm
    refine ⟨v, ?_, h⟩
    rw [e]; exact hl
section
variable {P : Program} {n : Nat} {f : Fr} {F : List Ent} {E : Env} {H : List HProp} {d : Option Nat} {ty : TypeId} {pos : String} {aft : Array Edge} {gd : Option (Nat × Bool)} {K : Value → List HProp → Prop}
theorem RetK.n0 (h : K (.tuple #[]) H) : RetK P E [] K .norm f H := h
theorem RetK.r0 (h : K (.tuple #[]) H) : RetK P E [] K .ret f H := h
theorem RetK.r1 {x : ResultVar} {v : Value} (h1 : RV P F E H x v) (h : K v H) : RetK P E [x] K .ret (fr F) H := RV.resK h1 h
theorem RetK.r2 {x y : ResultVar} {v u : Value} (h1 : RV P F E H x v) (h2 : RV P F E H y u) (h : K (.tuple #[v, u]) H) : RetK P E [x, y] K .ret (fr F) H := RV.resK h1 (RV.resK h2 h)
end
section
variable {P : Program} {n : Nat} {f : Fr} {E : Env} {H : List HProp} {K : Kont} {ops : Array Oper} {k : Nat} {listed : Array Bool} {F : List Ent} {dd : Nat} {op : Op} {ty : TypeId} {pos : String} {aft : Array Edge} {v : Value}
theorem AW.firstYesU (i : Nat) {o : Oper} {v : Value} {j t : Nat} {b : Bool} (hi : ops[i]? = some o) (hB : firstB ops listed i = true) (hg : o.guard = some (j, b)) (hj : guardSlot ops j = some t) (ht : Nat.blt t n = true)
    (hb : f t = .bool b) (hd : okD n o.dst = true) (h : Dtu P n f E H o v) (hk : AW P n ops k (listed.setIfInBounds i true) (updO f o.dst v) E H K) : AW P n ops (k + 1) listed f E H K := fun w a r d s => by
  simp only [firstB, Bool.and_eq_true] at hB
  have hr : i ∈ Region.ready .any ops listed := by simpa using hB.1.2
  exact AnyW.firstU hi (Region.noSelect_spec hB.1.1) k listed a w (Region.free_spec hi hB.2) hr (.inl ⟨by simp only [Region.wanted, hg, yielded_rel r hj ht hb]; simp, fun w' => h w s w' a r⟩)
    (hk w _ (r.put hd v) ((put_defers _ _ _).trans d) s)
theorem AW.firstNo (i : Nat) {o : Oper} {j t : Nat} {b : Bool} (hi : ops[i]? = some o) (hB : firstB ops listed i = true) (hg : o.guard = some (j, b)) (hj : guardSlot ops j = some t) (ht : Nat.blt t n = true)
    (hne : isB (f t) b = false) (hd : okD n o.dst = true) (hk : AW P n ops k (listed.setIfInBounds i true) (updO f o.dst undef) E H K) : AW P n ops (k + 1) listed f E H K := fun w a r d s => by
  simp only [firstB, Bool.and_eq_true] at hB
  have hr : i ∈ Region.ready .any ops listed := by simpa using hB.1.2
  exact AnyW.firstU hi (Region.noSelect_spec hB.1.1) k listed a w (Region.free_spec hi hB.2) hr (.inr ⟨wanted_rel r hg hj ht hne, rfl⟩)
    (hk w _ (r.put hd undef) ((put_defers _ _ _).trans d) s)
theorem AW.gu (i : Nat) {j t : Nat} {b : Bool} (hi : ops[i]? = some ⟨some dd, op, ty, pos, aft, some (j, b)⟩) (hB : firstB ops listed i = true) (hj : guardSlot ops j = some t) (ht : Nat.blt t n = true) (hb : look F t = some (.bool b))
    (h : Dtu P n (fr F) E H ⟨some dd, op, ty, pos, aft, some (j, b)⟩ v) (hd : Nat.blt dd n = true) (hk : AW P n ops k (listed.setIfInBounds i true) (fr (.set dd v :: F)) E H K) : AW P n ops (k + 1) listed (fr F) E H K :=
  AW.firstYesU i hi hB rfl hj ht (Option.some.inj ((look_fr F t).symm.trans hb)) hd h hk
theorem AW.gn (i : Nat) {j t : Nat} {b : Bool} {v : Value} (hi : ops[i]? = some ⟨some dd, op, ty, pos, aft, some (j, b)⟩) (hB : firstB ops listed i = true) (hj : guardSlot ops j = some t) (ht : Nat.blt t n = true) (hb : look F t = some v) (hne : isB v b = false)
    (hd : Nat.blt dd n = true) (hk : AW P n ops k (listed.setIfInBounds i true) (fr (.set dd undef :: F)) E H K) : AW P n ops (k + 1) listed (fr F) E H K :=
  AW.firstNo i hi hB rfl hj ht (by rw [Option.some.inj ((look_fr F t).symm.trans hb)]; exact hne) hd hk
theorem AW.decP (t : Nat) {p : Prop} {_ : Decidable p} (hb : look F t = some (.bool (decide p))) (h1 : p → AW P n ops k listed (fr (.set t (.bool true) :: F)) E H K) (h2 : ¬ p → AW P n ops k listed (fr (.set t (.bool false) :: F)) E H K) : AW P n ops k listed (fr F) E H K := by
  by_cases hp : p
  · rw [fr_decide hb (decide_eq_true hp)]; exact h1 hp
  · rw [fr_decide hb (decide_eq_false hp)]; exact h2 hp
theorem AW.dec (t : Nat) {b : Bool} (hb : look F t = some (.bool b)) (h1 : b = true → AW P n ops k listed (fr (.set t (.bool true) :: F)) E H K) (h2 : b = false → AW P n ops k listed (fr (.set t (.bool false) :: F)) E H K) : AW P n ops k listed (fr F) E H K := by
  cases hc : b with
  | true => rw [fr_decide hb hc]; exact h1 hc
  | false => rw [fr_decide hb hc]; exact h2 hc
theorem AWI.mkG {q : Bool} {i : Nat} {o : Oper} {j t : Nat} {b : Bool} (hi : ops[i]? = some o) (hg : o.guard = some (j, b)) (hj : guardSlot ops j = some t) (ht : Nat.blt t n = true) (hb : f t = .bool b) (hd : okD n o.dst = true)
    (h : Stp q P n f E H o fun v H' => AW P n ops k (listed.setIfInBounds i true) (updO f o.dst v) E H' K) : AWI P n ops k listed f E H K i := fun w a r d s => by
  unfold OpI
  simp only [hi]
  rw [if_pos (by simp only [Region.wanted, hg, yielded_rel r hj ht hb]; simp)]
  refine (h w a r s).mono ?_
  rintro v w' ⟨x, H', kk, s'⟩
  exact kk w' _ (r.put hd v) ((put_defers _ _ _).trans d) s'
theorem AWI.gd {i : Nat} {j t : Nat} {b : Bool} (hi : ops[i]? = some ⟨some dd, op, ty, pos, aft, some (j, b)⟩) (hj : guardSlot ops j = some t) (ht : Nat.blt t n = true) (hb : look F t = some (.bool b)) (h : Det P n (fr F) E H ⟨some dd, op, ty, pos, aft, some (j, b)⟩ v) (hd : Nat.blt dd n = true)
    (hk : AW P n ops k (listed.setIfInBounds i true) (fr (.set dd v :: F)) E H K) : AWI P n ops k listed (fr F) E H K i := AWI.mkG hi rfl hj ht (Option.some.inj ((look_fr F t).symm.trans hb)) hd (Det.stp h hk)
theorem AWI.gs {q : Bool} {i : Nat} {j t : Nat} {b : Bool} (hi : ops[i]? = some ⟨some dd, op, ty, pos, aft, some (j, b)⟩) (hj : guardSlot ops j = some t) (ht : Nat.blt t n = true) (hb : look F t = some (.bool b))
    (h : Stp q P n (fr F) E H ⟨some dd, op, ty, pos, aft, some (j, b)⟩ fun v H' => AW P n ops k (listed.setIfInBounds i true) (fr (.set dd v :: F)) E H' K) (hd : Nat.blt dd n = true) : AWI P n ops k listed (fr F) E H K i :=
  AWI.mkG hi rfl hj ht (Option.some.inj ((look_fr F t).symm.trans hb)) hd h
end
/-- some of what is owned is another -/
def upds (H : List HProp) : List (Nat × HProp) → List HProp
  | [] => H
  | (i, A) :: r => upds (H.set i A) r
section
variable {P : Program} {n : Nat} {F : List Ent} {E : Env} {H : List HProp} {K : Kont}
/-- a loop, told by what changes -/
theorem Body.loopH {c : Code} {γ : Type} {W : List Nat} (_hW : codeW c [] = some W) (L : γ → List (Nat × Value)) (ch : γ → List (Nat × HProp)) (Φ : γ → Prop) (μ : γ → Nat) (g0 : γ) (h0 : Φ g0) (hL : LookAll F (L g0)) (hH : H = upds H (ch g0))
    (round : ∀ g u, Φ g → Body P n c (fr (sets (L g) ++ .many W u :: F)) E (upds H (ch g)) (Round (HeadF W L (fun g => upds H (ch g)) Φ F E) μ g K)) : Body P n (.loop c) (fr F) E H K :=
  Body.loopF _hW L (fun g => upds H (ch g)) Φ μ g0 h0 hL hH round
/-- two ways come together, told by what changes -/
theorem Body.seqJH {c d : Code} {γ : Type} {W : List Nat} (_hW : codeW c [] = some W) (L : γ → List (Nat × Value)) (ch : γ → List (Nat × HProp)) (Φ : γ → Prop)
    (h1 : Body P n c (fr F) E H (Joint (fun f H' => ∃ g, HeadF W L (fun g => upds H (ch g)) Φ F E g f H') K)) (h2 : ∀ g u, Φ g → Body P n d (fr (sets (L g) ++ .many W u :: F)) E (upds H (ch g)) K) : Body P n (.seq c d) (fr F) E H K :=
  Body.seqJ _hW L (fun g => upds H (ch g)) Φ h1 h2
end
theorem Sl.shape {E : Env} {H : List HProp} {sz m : Nat} {v : Value} {vs : List Value} (h : Sl E H sz v m vs) : ∀ w, St E H w → ∃ a c, v = .slice a m c := fun w s => let ⟨_, _, a, e⟩ := (h w s).cap; ⟨a, _, e⟩
theorem Sl.hatI {E' : Env} {H : List HProp} (hat : ∀ A ∈ H, At A E') (i : Nat) {t : TypeId} {sz m : Nat} {v : Value} {vs : List Value} (h : H[i]? = some (Sx.osl t sz v m vs)) : Sl E' [] sz v m vs :=
  Sl.at (hat _ (List.mem_of_getElem? h))
end Go.Sx
end
section
/- My own logic of ownership over the model, part G: open order, where some of what is owned stays as it is while the region runs. -/
namespace Go.Sx
open Go
set_option linter.unusedVariables false
/-- in each world of S, o yields v and nothing else -/
def YieldsS (P : Program) (ops : Array Oper) (S : World → Prop) (o : Oper) (v : Value) (a : Act) : Prop :=
  (Region.wanted o (yielded ops a.tmps) = true ∧ ∀ w', S w' → (execOp a.eval o).run P w' = .ok (.value v) w') ∨ (Region.wanted o (yielded ops a.tmps) = false ∧ v = undef)
theorem YieldsS.of_same {P : Program} {ops : Array Oper} {S : World → Prop} {o : Oper} {v : Value} {a a' : Act} (hy : YieldsS P ops S o v a) (he : execOp a'.eval o = execOp a.eval o)
    (hw : Region.wanted o (yielded ops a'.tmps) = Region.wanted o (yielded ops a.tmps)) : YieldsS P ops S o v a' := by
  unfold YieldsS at *
  rw [he, hw]; exact hy
theorem YieldsS.opI {P : Program} {ops : Array Oper} {S : World → Prop} {i : Nat} {o : Oper} {v : Value} {a : Act} {w : World} {K : Act → World → Prop} (hi : ops[i]? = some o) (hy : YieldsS P ops S o v a) (hs : S w) (h : K (a.put o.dst v) w) : OpI P ops i a w K := by
  unfold OpI
  simp only [hi]
  rcases hy with ⟨hw, hv⟩ | ⟨hw, rfl⟩
  · rw [if_pos hw]; unfold OpR; rw [hv w hs]; exact h
  · rw [if_neg (by rw [hw]; simp)]; exact h
theorem OpI.putG {P : Program} {ops : Array Oper} {j : Nat} {oi oj : Oper} {v : Value} (hj : ops[j]? = some oj) (hap : oi.apart ops oj = true)
    (hsj : ∀ cs b, oj.op ≠ .select cs b) {K : Act → World → Prop} {a : Act} {w : World} (Y : Act → Prop) (keep : ∀ u, Y (a.put oj.dst u))
    (h : OpI P ops j (a.put oi.dst v) w K) : OpI P ops j a w fun a' w' => Y a' ∧ K (a'.put oi.dst v) w' := by
  obtain ⟨h1, h2, h3⟩ := Oper.apart_spec hap
  unfold OpI at *
  simp only [hj] at *
  rw [wanted_put oj a oi.dst v h1] at h
  split
  · rename_i hw
    rw [if_pos hw] at h
    unfold OpR at *
    rw [execOp_put oj hsj a oi.dst v h1] at h
    generalize (execOp a.eval oj).run P w = r at *
    cases r with
    | halt x w' => exact h
    | ok n w' =>
      cases n <;> first
        | exact h
        | exact ⟨keep _, by rw [← Act.put_comm a v _ h2]; exact h⟩
        | exact Calls.mono h fun e w'' ⟨u, e1, k⟩ => ⟨u, e1, keep _, by rw [← Act.put_comm a v u h2]; exact k⟩
  · rename_i hw
    rw [if_neg hw] at h
    exact ⟨keep _, by rw [← Act.put_comm a v undef h2]; exact h⟩
def AnyE (P : Program) (ops : Array Oper) (S : World → Prop) (Q : Exit → Act → World → Prop) : Nat → Array Bool → Act → World → Prop
  | 0, listed, a, w => Region.ready .any ops listed = [] ∧ Q .normal a w
  | k + 1, listed, a, w => (Region.ready .any ops listed = [] → Q .normal a w) ∧
    ∀ i ∈ Region.ready .any ops listed, OpI P ops i a w fun a' w' => S w' ∧ AnyE P ops S Q k (listed.setIfInBounds i true) a' w'
theorem AnyE.wpAny {P : Program} {ops : Array Oper} {S : World → Prop} {Q Q' : Exit → Act → World → Prop} (hq : ∀ a w, Q .normal a w → Q' .normal a w) : ∀ (k : Nat) (listed : Array Bool) (a : Act) (w : World), AnyE P ops S Q k listed a w → Go.wpAny P .any ops Q' k listed a w
  | 0, _, _, _, h => ⟨h.1, hq _ _ h.2⟩
  | k + 1, _, _, _, h => ⟨fun e => hq _ _ (h.1 e), fun i hi => ((h.2 i hi).mono fun _ _ q => AnyE.wpAny hq k _ _ _ q.2).wpOp⟩
theorem AnyE.first {P : Program} {ops : Array Oper} {S : World → Prop} {Q : Exit → Act → World → Prop} {i : Nat} {oi : Oper} {v : Value} (hi : ops[i]? = some oi) (hsel : ∀ (j : Nat) (o : Oper) cs b, ops[j]? = some o → o.op ≠ .select cs b) :
    ∀ (fuel : Nat) (listed : Array Bool) (a : Act) (w : World), S w →
      (∀ j oj, ops[j]? = some oj → j ≠ i → listed.getD j true = false → (∀ e ∈ oj.after, Region.binds .any e = true → e.on ≠ i) → oi.apart ops oj = true) →
      i ∈ Region.ready .any ops listed → YieldsS P ops S oi v a →
      AnyE P ops S Q fuel (listed.setIfInBounds i true) (a.put oi.dst v) w → AnyE P ops S Q (fuel + 1) listed a w := by
  intro fuel
  induction fuel with
  | zero =>
    intro listed a w hs _ hr hy H
    refine ⟨fun h => (by rw [h] at hr; cases hr), fun j hj => ?_⟩
    by_cases hji : j = i
    · subst hji; exact hy.opI hi hs ⟨hs, H⟩
    · have := ready_mono hj hji
      rw [H.1] at this
      cases this
  | succ fuel ih =>
    intro listed a w hs hfree hr hy H
    refine ⟨fun h => (by rw [h] at hr; cases hr), fun j hj => ?_⟩
    by_cases hji : j = i
    · subst hji; exact hy.opI hi hs ⟨hs, H⟩
    · have h1 := H.2 j (ready_mono hj hji)
      obtain ⟨hjun, oj, hoj, hall⟩ := mem_ready.1 hj
      have hnot : ∀ e ∈ oj.after, Region.binds .any e = true → e.on ≠ i := fun e he hb heq => by
        have h1 := hall e he hb
        rw [heq] at h1
        exact getD_tf (mem_ready.1 hr).1 h1
      have hap := hfree j oj hoj hji hjun hnot
      have h3 := (Oper.apart_spec hap).2.2
      have h2 := OpI.putG hoj hap (fun cs b => hsel j oj cs b hoj) (YieldsS P ops S oi v) (fun u => hy.of_same (execOp_put oi (fun cs b => hsel i oi cs b hi) a oj.dst u h3) (wanted_put oi a oj.dst u h3)) h1
      have hfree' : ∀ k ok, ops[k]? = some ok → k ≠ i → (listed.setIfInBounds j true).getD k true = false →
          (∀ e ∈ ok.after, Region.binds .any e = true → e.on ≠ i) → oi.apart ops ok = true := fun k ok hk hki hun hno => by
        refine hfree k ok hk hki ?_ hno
        by_cases hjk : j = k
        · subst hjk; exact hjun
        · rw [getD_set_ne true hjk] at hun; exact hun
      refine h2.mono fun a' w' ⟨hy', hs', h3⟩ => ⟨hs', ih (listed.setIfInBounds j true) a' w' hs' hfree' (ready_mono hr (Ne.symm hji)) hy' ?_⟩
      rw [Array.setIfInBounds_comm _ _ hji]
      exact h3
/-- what is left of a region, in whatever order -/
def AE (P : Program) (n : Nat) (ops : Array Oper) (k : Nat) (listed : Array Bool) (f : Fr) (E : Env) (H : List HProp) (K : Kont) : Prop :=
  ∀ w a, Rel n f a.tmps → a.defers = [] → St E H w → AnyE P ops (St E []) (Post n E K) k listed a w
theorem St.bare {E : Env} {H : List HProp} {w : World} (s : St E H w) : St E [] w := (St.dropAll (A := H) (H := []) (by simpa using s))
def AtAll : List HProp → Env → Prop
  | [], _ => True
  | A :: R, E => At A E ∧ AtAll R E
theorem AtAll.mk : ∀ {R : List HProp} {E : Env}, (∀ A ∈ R, At A E) → AtAll R E
  | [], _, _ => trivial
  | A :: R, E, h => ⟨h A (.head _), AtAll.mk fun B hB => h B (.tail _ hB)⟩
section
variable {P : Program} {n : Nat} {f : Fr} {E : Env} {H : List HProp} {K : Kont} {ops : Array Oper} {k : Nat} {listed : Array Bool} {F : List Ent} {dd : Nat} {op : Op} {ty : TypeId} {pos : String} {aft : Array Edge} {v : Value}
/-- some of what is owned stays as it is while the region runs -/
theorem Body.drawE {id : Nat} {l : List Oper} (is : List Nat) (hm : P.follows .mixedOrders = true) {R H1 : List HProp} (hp : pick is H = some (R, H1))
    (h : ∀ E', E.Le E' → AtAll R E' → AE P n l.toArray l.length (Array.replicate l.length false) f E' H1 (fun e f H' => K e f (H' ++ R))) : Body P n (.region id l.toArray true) f E H K := fun w a r d s => by
  have s1 : St E (H1 ++ R) w := (s.perm (pick_perm hp)).perm List.perm_append_comm
  obtain ⟨E', le, hat, s2, back⟩ := s1.frame
  refine wp_region_any hm (AnyE.wpAny (fun a w q => ?_) _ _ _ _ (by
    have := h E' le (AtAll.mk hat) { w with drawn := w.drawn + 1 } a r d (s2.ext ⟨Hp.Le.refl _, rfl, rfl, rfl⟩)
    simpa using this))
  obtain ⟨d', f', H', r', k', s'⟩ := q
  exact ⟨d', f', H' ++ R, r', k', back _ _ s'⟩
theorem AE.done (hr : (Region.ready .any ops listed).isEmpty = true) (h : K .norm f H) : AE P n ops k listed f E H K := fun w a r d s => by
  have hr' : Region.ready .any ops listed = [] := by simpa using hr
  cases k with
  | zero => exact ⟨hr', d, f, H, r, h, s⟩
  | succ k => exact ⟨fun _ => ⟨d, f, H, r, h, s⟩, fun i hi => by rw [hr'] at hi; cases hi⟩
theorem AE.firstY (i : Nat) {o : Oper} {v : Value} (hi : ops[i]? = some o) (hB : firstB ops listed i = true) (hd : okD n o.dst = true) (hy : ∀ w a, Rel n f a.tmps → St E H w → YieldsS P ops (St E []) o v a)
    (hk : AE P n ops k (listed.setIfInBounds i true) (updO f o.dst v) E H K) : AE P n ops (k + 1) listed f E H K := fun w a r d s => by
  simp only [firstB, Bool.and_eq_true] at hB
  have hr : i ∈ Region.ready .any ops listed := by simpa using hB.1.2
  exact AnyE.first hi (Region.noSelect_spec hB.1.1) k listed a w s.bare (Region.free_spec hi hB.2) hr (hy w a r s) (hk w _ (r.put hd v) ((put_defers _ _ _).trans d) s)
theorem AE.u (i : Nat) (hi : ops[i]? = some ⟨some dd, op, ty, pos, aft, none⟩) (hB : firstB ops listed i = true) (h : Dtu P n (fr F) E H ⟨some dd, op, ty, pos, aft, none⟩ v) (hd : Nat.blt dd n = true)
    (hk : AE P n ops k (listed.setIfInBounds i true) (fr (.set dd v :: F)) E H K) : AE P n ops (k + 1) listed (fr F) E H K :=
  AE.firstY i hi hB hd (fun w a r s => .inl ⟨wanted_none rfl _, fun w' _ => h w s w' a r⟩) hk
/-- a load of what stays -/
theorem AE.d (i : Nat) (hi : ops[i]? = some ⟨some dd, op, ty, pos, aft, none⟩) (hB : firstB ops listed i = true) (h : Det P n (fr F) E [] ⟨some dd, op, ty, pos, aft, none⟩ v) (hd : Nat.blt dd n = true)
    (hk : AE P n ops k (listed.setIfInBounds i true) (fr (.set dd v :: F)) E H K) : AE P n ops (k + 1) listed (fr F) E H K :=
  AE.firstY i hi hB hd (fun w a r s => .inl ⟨wanted_none rfl _, fun w' s' => h w' a r s'⟩) hk
theorem AE.gu (i : Nat) {j t : Nat} {b : Bool} (hi : ops[i]? = some ⟨some dd, op, ty, pos, aft, some (j, b)⟩) (hB : firstB ops listed i = true) (hj : guardSlot ops j = some t) (ht : Nat.blt t n = true) (hb : look F t = some (.bool b))
    (h : Dtu P n (fr F) E H ⟨some dd, op, ty, pos, aft, some (j, b)⟩ v) (hd : Nat.blt dd n = true) (hk : AE P n ops k (listed.setIfInBounds i true) (fr (.set dd v :: F)) E H K) : AE P n ops (k + 1) listed (fr F) E H K :=
  AE.firstY i hi hB hd (fun w a r s => .inl ⟨by simp only [Region.wanted, yielded_rel r hj ht (Option.some.inj ((look_fr F t).symm.trans hb))]; simp, fun w' _ => h w s w' a r⟩) hk
theorem AE.gd (i : Nat) {j t : Nat} {b : Bool} (hi : ops[i]? = some ⟨some dd, op, ty, pos, aft, some (j, b)⟩) (hB : firstB ops listed i = true) (hj : guardSlot ops j = some t) (ht : Nat.blt t n = true) (hb : look F t = some (.bool b))
    (h : Det P n (fr F) E [] ⟨some dd, op, ty, pos, aft, some (j, b)⟩ v) (hd : Nat.blt dd n = true) (hk : AE P n ops k (listed.setIfInBounds i true) (fr (.set dd v :: F)) E H K) : AE P n ops (k + 1) listed (fr F) E H K :=
  AE.firstY i hi hB hd (fun w a r s => .inl ⟨by simp only [Region.wanted, yielded_rel r hj ht (Option.some.inj ((look_fr F t).symm.trans hb))]; simp, fun w' s' => h w' a r s'⟩) hk
theorem AE.gn (i : Nat) {j t : Nat} {b : Bool} {v : Value} (hi : ops[i]? = some ⟨some dd, op, ty, pos, aft, some (j, b)⟩) (hB : firstB ops listed i = true) (hj : guardSlot ops j = some t) (ht : Nat.blt t n = true) (hb : look F t = some v) (hne : isB v b = false)
    (hd : Nat.blt dd n = true) (hk : AE P n ops k (listed.setIfInBounds i true) (fr (.set dd undef :: F)) E H K) : AE P n ops (k + 1) listed (fr F) E H K :=
  AE.firstY i hi hB hd (fun w a r s => .inr ⟨wanted_rel r rfl hj ht (by rw [Option.some.inj ((look_fr F t).symm.trans hb)]; exact hne), rfl⟩) hk
theorem AE.decP (t : Nat) {p : Prop} {_ : Decidable p} (hb : look F t = some (.bool (decide p))) (h1 : p → AE P n ops k listed (fr (.set t (.bool true) :: F)) E H K) (h2 : ¬ p → AE P n ops k listed (fr (.set t (.bool false) :: F)) E H K) : AE P n ops k listed (fr F) E H K := by
  by_cases hp : p
  · rw [fr_decide hb (decide_eq_true hp)]; exact h1 hp
  · rw [fr_decide hb (decide_eq_false hp)]; exact h2 hp
theorem AE.dec (t : Nat) {b : Bool} (hb : look F t = some (.bool b)) (h1 : b = true → AE P n ops k listed (fr (.set t (.bool true) :: F)) E H K) (h2 : b = false → AE P n ops k listed (fr (.set t (.bool false) :: F)) E H K) : AE P n ops k listed (fr F) E H K := by
  cases hc : b with
  | true => rw [fr_decide hb hc]; exact h1 hc
  | false => rw [fr_decide hb hc]; exact h2 hc
/-- i comes up next -/
def AEI (P : Program) (n : Nat) (ops : Array Oper) (k : Nat) (listed : Array Bool) (f : Fr) (E : Env) (H : List HProp) (K : Kont) (i : Nat) : Prop :=
  ∀ w a, Rel n f a.tmps → a.defers = [] → St E H w → OpI P ops i a w fun a' w' => St E [] w' ∧ AnyE P ops (St E []) (Post n E K) k (listed.setIfInBounds i true) a' w'
/-- each of these may come up next -/
def AEs (P : Program) (n : Nat) (ops : Array Oper) (k : Nat) (listed : Array Bool) (f : Fr) (E : Env) (H : List HProp) (K : Kont) : List Nat → Prop
  | [] => True
  | i :: r => AEI P n ops k listed f E H K i ∧ AEs P n ops k listed f E H K r
theorem AEs.get : ∀ {is : List Nat} {i : Nat}, AEs P n ops k listed f E H K is → i ∈ is → AEI P n ops k listed f E H K i
  | _ :: _, _, h, .head _ => h.1
  | _ :: _, _, h, .tail _ m => AEs.get h.2 m
theorem AE.more (is : List Nat) (hB : (Region.ready .any ops listed == is) = true) (hne : is.isEmpty = false) (h : AEs P n ops k listed f E H K is) : AE P n ops (k + 1) listed f E H K := fun w a r d s => by
  have hr : Region.ready .any ops listed = is := by simpa using hB
  refine ⟨fun e => ?_, fun j hj => ?_⟩
  · rw [hr] at e; rw [e] at hne; simp at hne
  · exact AEs.get h (hr ▸ hj) w a r d s
theorem AEI.mk {q : Bool} {i : Nat} {o : Oper} (hi : ops[i]? = some o) (hg : o.guard = none) (hd : okD n o.dst = true)
    (h : Stp q P n f E H o fun v H' => AE P n ops k (listed.setIfInBounds i true) (updO f o.dst v) E H' K) : AEI P n ops k listed f E H K i := fun w a r d s => by
  unfold OpI
  simp only [hi]
  rw [if_pos (wanted_none hg _)]
  refine (h w a r s).mono ?_
  rintro v w' ⟨x, H', kk, s'⟩
  exact ⟨s'.bare, kk w' _ (r.put hd v) ((put_defers _ _ _).trans d) s'⟩
theorem AEI.mkG {q : Bool} {i : Nat} {o : Oper} {j t : Nat} {b : Bool} (hi : ops[i]? = some o) (hg : o.guard = some (j, b)) (hj : guardSlot ops j = some t) (ht : Nat.blt t n = true) (hb : f t = .bool b) (hd : okD n o.dst = true)
    (h : Stp q P n f E H o fun v H' => AE P n ops k (listed.setIfInBounds i true) (updO f o.dst v) E H' K) : AEI P n ops k listed f E H K i := fun w a r d s => by
  unfold OpI
  simp only [hi]
  rw [if_pos (by simp only [Region.wanted, hg, yielded_rel r hj ht hb]; simp)]
  refine (h w a r s).mono ?_
  rintro v w' ⟨x, H', kk, s'⟩
  exact ⟨s'.bare, kk w' _ (r.put hd v) ((put_defers _ _ _).trans d) s'⟩
theorem AEI.d {i : Nat} (hi : ops[i]? = some ⟨some dd, op, ty, pos, aft, none⟩) (h : Det P n (fr F) E H ⟨some dd, op, ty, pos, aft, none⟩ v) (hd : Nat.blt dd n = true)
    (hk : AE P n ops k (listed.setIfInBounds i true) (fr (.set dd v :: F)) E H K) : AEI P n ops k listed (fr F) E H K i := AEI.mk hi rfl hd (Det.stp h hk)
theorem AEI.s {q : Bool} {i : Nat} (hi : ops[i]? = some ⟨some dd, op, ty, pos, aft, none⟩) (h : Stp q P n (fr F) E H ⟨some dd, op, ty, pos, aft, none⟩ fun v H' => AE P n ops k (listed.setIfInBounds i true) (fr (.set dd v :: F)) E H' K) (hd : Nat.blt dd n = true) : AEI P n ops k listed (fr F) E H K i := AEI.mk hi rfl hd h
theorem AEI.e {q : Bool} {i : Nat} (hi : ops[i]? = some ⟨none, op, ty, pos, aft, none⟩)
    (h : Stp q P n (fr F) E H ⟨none, op, ty, pos, aft, none⟩ fun _ H' => AE P n ops k (listed.setIfInBounds i true) (fr F) E H' K) : AEI P n ops k listed (fr F) E H K i := AEI.mk hi rfl rfl h
theorem AEI.gd {i : Nat} {j t : Nat} {b : Bool} (hi : ops[i]? = some ⟨some dd, op, ty, pos, aft, some (j, b)⟩) (hj : guardSlot ops j = some t) (ht : Nat.blt t n = true) (hb : look F t = some (.bool b)) (h : Det P n (fr F) E H ⟨some dd, op, ty, pos, aft, some (j, b)⟩ v) (hd : Nat.blt dd n = true)
    (hk : AE P n ops k (listed.setIfInBounds i true) (fr (.set dd v :: F)) E H K) : AEI P n ops k listed (fr F) E H K i := AEI.mkG hi rfl hj ht (Option.some.inj ((look_fr F t).symm.trans hb)) hd (Det.stp h hk)
theorem AEI.gs {q : Bool} {i : Nat} {j t : Nat} {b : Bool} (hi : ops[i]? = some ⟨some dd, op, ty, pos, aft, some (j, b)⟩) (hj : guardSlot ops j = some t) (ht : Nat.blt t n = true) (hb : look F t = some (.bool b))
    (h : Stp q P n (fr F) E H ⟨some dd, op, ty, pos, aft, some (j, b)⟩ fun v H' => AE P n ops k (listed.setIfInBounds i true) (fr (.set dd v :: F)) E H' K) (hd : Nat.blt dd n = true) : AEI P n ops k listed (fr F) E H K i :=
  AEI.mkG hi rfl hj ht (Option.some.inj ((look_fr F t).symm.trans hb)) hd h
theorem AE.pure {p : Prop} (hp : ∀ w, St E H w → p) (h : p → AE P n ops k listed f E H K) : AE P n ops k listed f E H K := fun w a r d s => h (hp w s) w a r d s
theorem AE.conseq {H' : List HProp} (hs : ∀ w, St E H w → St E H' w) (h : AE P n ops k listed f E H' K) : AE P n ops k listed f E H K := fun w a r d s => h w a r d (hs w s)
end
end Go.Sx
end
section
/- My own logic of ownership over the model, part H: arrays as slices of their own. -/
namespace Go.Sx
open Go
set_option linter.unusedVariables false
/-- an array's block, as a slice -/
theorem arrO {E : Env} {b m : Nat} (sz : Nat) {vs : List Value} {t : TypeId} {H : List HProp} {w : World} (h1 : vs.length = m * sz) (h3 : m ≤ maxLen) (s : St E (own b vs t :: H) w) : St E (osl t sz (.slice (some ⟨b, 0, none⟩) m m) m vs :: H) w :=
  osl_own (rest := []) h1 (Nat.le_refl _) h3 (by simpa using h1) (by simpa using s)
/-- back again -/
theorem arrB {E : Env} {b m sz : Nat} {vs : List Value} {t : TypeId} {H : List HProp} {w : World} (h0 : 0 < m) (s : St E (osl t sz (.slice (some ⟨b, 0, none⟩) m m) m vs :: H) w) : St E (own b vs t :: H) w := by
  rcases osl_cases s with ⟨a, _, rfl, _⟩ | ⟨b', cap, rest, e, h1, h2, h3, h4, s2⟩
  · omega
  · injection e with e1 _ e2
    injection e1 with e1
    injection e1 with e1
    subst e1 e2
    have : rest = [] := by
      rw [List.length_append, h1] at h4
      exact List.eq_nil_of_length_eq_zero (by omega)
    subst this
    simpa using s2
theorem arr_at {E : Env} {H : List HProp} (i : Nat) {b m sz : Nat} {vs : List Value} (us : List Value) {t : TypeId} (hi : H[i]? = some (own b vs t)) (he : vs = us) (h1 : us.length = m * sz) (h3 : m ≤ 9223372036854775807) {H' : List HProp} (hH : setL H i (osl t sz (.slice (some ⟨b, 0, none⟩) m m) m us) = some H') :
    ∀ w, St E H w → St E H' w := fun w s => by
  obtain rfl := setL_eq hH
  subst he
  exact St.put hi (arrO sz h1 (by unfold maxLen; omega) (s.get hi))
theorem bak_at {E : Env} {H : List HProp} (i : Nat) {b m sz : Nat} {vs : List Value} (us : List Value) {t : TypeId} (hi : H[i]? = some (osl t sz (.slice (some ⟨b, 0, none⟩) m m) m vs)) (he : vs = us) (h0 : 0 < m) {H' : List HProp} (hH : setL H i (own b us t) = some H') :
    ∀ w, St E H w → St E H' w := fun w s => by
  obtain rfl := setL_eq hH
  subst he
  exact St.put hi (arrB h0 (s.get hi))
/-- a slice that is read alone: whatever it is a part of -/
def wsl (sz : Nat) (v : Value) (m : Nat) (vs : List Value) : HProp := fun h => ∀ w : World, h.Le (hpOf w) → SlW w sz v m vs
theorem Sl.wsl {E : Env} {H : List HProp} (i : Nat) {sz m : Nat} {v : Value} {vs : List Value} (hi : H[i]? = some (Sx.wsl sz v m vs)) : Sl E H sz v m vs := fun w s => by
  obtain ⟨h, ⟨h1, h2, ho, _, _, rfl⟩, _, l⟩ := (s.get hi).has
  exact ho w ((Hp.le_union_left _ _).trans l)
theorem Sl.atW {E : Env} {sz m : Nat} {v : Value} {vs : List Value} (h : At (Sx.wsl sz v m vs) E) : Sl E [] sz v m vs := fun w s => by
  obtain ⟨x, hx, l⟩ := h
  exact hx w (l.trans s.keep)
theorem Sl.hatW {E' : Env} {H : List HProp} (hat : ∀ A ∈ H, At A E') (i : Nat) {sz m : Nat} {v : Value} {vs : List Value} (h : H[i]? = some (Sx.wsl sz v m vs)) : Sl E' [] sz v m vs :=
  Sl.atW (hat _ (List.mem_of_getElem? h))
theorem wsl_mono {E : Env} {H : List HProp} {sz m sz' m' : Nat} {v v' : Value} {vs vs' : List Value} {w : World} (k : ∀ w, SlW w sz v m vs → SlW w sz' v' m' vs') (s : St E (wsl sz v m vs :: H) w) : St E (wsl sz' v' m' vs' :: H) w := by
  obtain ⟨h, ⟨h1, h2, ho, s2, d, rfl⟩, dE, l⟩ := s.has
  exact ⟨⟨_, ⟨h1, h2, fun w l => k w (ho w l), s2, d, rfl⟩, dE, l⟩, s.keep, s.os, s.tape, s.output⟩
theorem wsl_osl {E : Env} {H : List HProp} {t : TypeId} {sz m : Nat} {v : Value} {vs : List Value} {w : World} (s : St E (osl t sz v m vs :: H) w) : St E (wsl sz v m vs :: H) w := by
  obtain ⟨h, ⟨h1, h2, ho, s2, d, rfl⟩, dE, l⟩ := s.has
  refine ⟨⟨_, ⟨h1, h2, fun w lw => ?_, s2, d, rfl⟩, dE, l⟩, s.keep, s.os, s.tape, s.output⟩
  rcases ho with ⟨a, rfl, rfl, rfl, rfl⟩ | ⟨b, cap, rest, rfl, e2, e3, e4, e5, rfl⟩
  · exact ⟨by simp, Nat.zero_le _, .inl ⟨rfl, a, 0, rfl, Nat.zero_le _⟩⟩
  · have hb : w.heap[b]? = some (.cells (vs ++ rest).toArray t (0, 0)) := lw b _ (by simp [Hp.one])
    exact ⟨e2, Nat.le_trans e3 e4, .inr ⟨cap, rfl, e3, e4, fun j u hj => cell_of_heap hb (by
      simp only [offOf, Nat.zero_add, List.getElem?_toArray]
      rw [List.getElem?_append_left (List.getElem?_eq_some_iff.1 hj).1]; exact hj)⟩⟩
/-- its elements from k on -/
theorem wsl_drop {E : Env} {H : List HProp} {α : Type} {gg : α → Value} {xs : List α} {m : Nat} {v : Value} {w : World} (k : Nat) (hk : k ≤ m) (s : St E (wsl 1 v m (xs.map gg) :: H) w) : St E (wsl 1 (subSl v 1 k m (capOf v)) (m - k) ((xs.drop k).map gg) :: H) w :=
  wsl_mono (fun w h => by
    have hl := h.len
    have := subSl_slW h hk (Nat.le_refl _) h.cap.1 (Nat.le_refl _)
    simp only [Nat.mul_one, List.length_map] at this hl
    rwa [← List.map_drop, ← List.map_take, List.take_of_length_le (by rw [List.length_drop, hl]; exact Nat.le_refl _)] at this) s
theorem Rd.arr {E : Env} {H : List HProp} (i : Nat) {b sz m c k j : Nat} {vs : List Value} {u : Value} {t : TypeId} (hi : H[i]? = some (osl t sz (.slice (some ⟨b, 0, none⟩) m c) k vs)) (hj : vs[j]? = some u) : Rd E H b (0 + j) u :=
  Rd.sl (Sl.osl i hi) hj
theorem Rds.arr {E : Env} {H : List HProp} (i : Nat) {b sz m c k p q : Nat} {vs us : List Value} {t : TypeId} (hi : H[i]? = some (osl t sz (.slice (some ⟨b, 0, none⟩) m c) k vs)) (hu : (vs.drop p).take q = us) : Rds E H b (0 + p) us :=
  Rds.sl (Sl.osl i hi) hu
section
variable {P : Program} {n : Nat} {f : Fr} {E : Env} {H : List HProp} {d : Option Nat} {ty : TypeId} {pos : String} {aft : Array Edge} {g : Option (Nat × Bool)} {x y z : Operand} {K : Value → List HProp → Prop}
/-- a part of an array -/
theorem Dtu.slcA {t e : TypeId} {sz m b off : Nat} {lo hi : Option Operand} (l h : Nat) (ht : P.underlying t = some (.array m e)) (hz : ∀ w, (sizeOf e).run P w = .ok sz w) (hx : ev f x = .pointer (some ⟨b, off, none⟩))
    (hlo : match lo with | none => l = 0 | some o => ∃ k, ev f o = .int k (l : Int)) (hhi : match hi with | none => h = m | some o => ∃ k, ev f o = .int k (h : Int)) (h1 : l ≤ h) (h2 : h ≤ m) :
    Dtu P n f E H ⟨d, .slice t x lo hi none, ty, pos, aft, g⟩ (subSl (.slice (some ⟨b, off, none⟩) m m) sz l h m) := fun w0 s w a' r => by
  have b1 : ∀ (k : IntKind) (y : Nat) (code : BoundsCode), l ≤ y → (Instr.sliceBound (.int k (l : Int)) y code).run P w = .ok l w := fun k y code hy => by
    rw [run_sliceBound _ _ _ _ _ (by omega) (by omega)]; simp
  have b2 : ∀ (k : IntKind) (y : Nat) (code : BoundsCode), h ≤ y → (Instr.sliceBound (.int k (h : Int)) y code).run P w = .ok h w := fun k y code hy => by
    rw [run_sliceBound _ _ _ _ _ (by omega) (by omega)]; simp
  have e : (Instr.sliceBounds false m m (lo.map (ev f)) (hi.map (ev f)) none).run P w = .ok (l, h, m) w := by
    cases lo with
    | none =>
      simp only at hlo; subst hlo
      cases hi with
      | none => simp only at hhi; subst hhi; simp [Instr.sliceBounds]
      | some o =>
        obtain ⟨k, hk⟩ := hhi
        simp only [Instr.sliceBounds, Option.map_none, Option.map_some, hk, Sem.run_bind, Sem.run_pure, Result.andThen_ok, b2 k m _ h2]
    | some o' =>
      obtain ⟨k', hk'⟩ := hlo
      cases hi with
      | none => simp only at hhi; subst hhi; simp only [Instr.sliceBounds, Option.map_none, Option.map_some, hk', Sem.run_bind, Sem.run_pure, Result.andThen_ok, b1 k' h _ h1]
      | some o =>
        obtain ⟨k, hk⟩ := hhi
        simp only [Instr.sliceBounds, Option.map_some, hk, hk', Sem.run_bind, Sem.run_pure, Result.andThen_ok, b2 k m _ h2, b1 k' h _ h1]
  simp only [execOp, r.eval, hx, Option.map_none, Instr.sliceAt, Instr.sureAddr, Sem.run_bind, run_underlying ht, Result.andThen_ok, e, hz, Sem.run_pure, subSl]
  by_cases hml : m = l
  · subst hml; simp
  · simp [hml]
/-- a store into an array that is kept as a slice -/
theorem Stp.storeArr (i : Nat) {α : Type} {gg : α → Value} {xs : List α} {k b m c : Nat} {e : α} {T t : TypeId} {H' : List HProp}
    (hm : ∀ w, (sizeOf T).run P w = .ok 1 w) (hi : H[i]? = some (osl t 1 (.slice (some ⟨b, 0, none⟩) m c) m (xs.map gg))) (hx : ev f x = .pointer (some ⟨b, 0 + k * 1, none⟩)) (hy : ev f y = gg e) (hc : ∀ e, (gg e).cells = [gg e].toArray) (h1 : (gg e).oneCell' = true)
    (hl : k < xs.length) (hH : setL H i (osl t 1 (.slice (some ⟨b, 0, none⟩) m c) m ((xs.set k e).map gg)) = some H') (kk : K undef H') : Stp false P n f E H ⟨d, .store T x y, ty, pos, aft, g⟩ K :=
  Stp.storeM i hm hi hx hy hc h1 hl hH kk
/-- append of nothing -/
theorem Stp.append0 {t e : TypeId} {sz m : Nat} {v u : Value} {vs : List Value} (ht : P.underlying t = some (.slice e)) (hz : ∀ w, (sizeOf e).run P w = .ok sz w) (hx : ev f x = v) (hy : ev f y = u)
    (hv : Sl E H sz v m vs) (hs : Sl E H sz u 0 []) (k' : K v H) :
    Stp true P n f E H ⟨d, .call { callee := .builtin .append, args := #[x, y], argTypes := #[t, t] }, ty, pos, aft, g⟩ K := fun w a r s => by
  obtain ⟨c1, c2, a0, e0⟩ := (hv w s).cap
  have hu : ∃ a' c', u = .slice a' 0 c' := by
    rcases (hs w s).val with ⟨_, a', c', rfl, _⟩ | ⟨c', e', _⟩
    · exact ⟨a', c', rfl⟩
    · exact ⟨_, _, e'⟩
  obtain ⟨a', c', rfl⟩ := hu
  have hf := run_first (P := P) (hs w s) (Nat.le_refl 0)
  unfold OpR
  rw [run_append_op r hx hy w]
  generalize capOf v = c at *
  subst e0
  have hrun : (Builtin.append_ #[t, t] ty #[.slice a0 m c, .slice a' 0 c']).run P w = .ok (.slice a0 m c) w := by
    cases a0 <;> simp [Builtin.append_, run_underlying ht, hz, Builtin.lenOf, c1, hf, storeCells]
  rw [hrun]
  exact ⟨fun _ => Ext.refl w, H, k', s⟩
end
end Go.Sx
end
section
/- Maps whose keys are integers: as one thing that is owned; look-ups, stores, delete, len, range. -/
namespace Go.Sx
open Go
set_option linter.unusedVariables false
set_option linter.unusedSimpArgs false

/-! ### any block -/
def blk (b : Nat) (o : Obj) : HProp := fun h => h = Hp.one b o
theorem St.blk {E : Env} {b : Nat} {o : Obj} {H : List HProp} {w : World} (s : St E (Sx.blk b o :: H) w) : w.heap[b]? = some o := by
  obtain ⟨h, ⟨h1, h2, rfl, _, _, rfl⟩, _, l⟩ := s.has
  exact ((Hp.le_union_left _ _).trans l) b _ (by simp [Hp.one])
theorem St.newO {E : Env} {H : List HProp} {w : World} (s : St E H w) (o : Obj) : St E (Sx.blk w.heap.size o :: H) { w with heap := w.heap.push o } ∧ Ext w { w with heap := w.heap.push o } := by
  have hn : hpOf w w.heap.size = none := by simp [hpOf]
  have hle : (hpOf w).Le (hpOf { w with heap := w.heap.push o }) := by
    intro n o h
    rw [hpOf_push]
    by_cases hn' : n = w.heap.size
    · subst hn'; rw [hn] at h; cases h
    · simp [hn', h]
  obtain ⟨h, a, dE, l⟩ := s.has
  have dn : ∀ x : Hp, x.Le (hpOf w) → (Hp.one w.heap.size o).Disj x := fun x lx => Hp.one_disj (by
    cases hx : x w.heap.size with
    | none => rfl
    | some o => have := lx _ _ hx; rw [hn] at this; cases this)
  refine ⟨⟨⟨(Hp.one w.heap.size o).union h, ⟨_, h, rfl, a, dn h l, rfl⟩, Hp.Disj.union_right (dn _ s.keep).symm dE, Hp.union_le (Hp.one_le (by rw [hpOf_push]; simp)) (l.trans hle)⟩,
    s.keep.trans hle, s.os, s.tape, s.output⟩, ⟨hle, rfl, rfl, rfl⟩⟩
theorem St.wr {E : Env} {b : Nat} {o o' : Obj} {H : List HProp} {w w' : World} (s : St E (Sx.blk b o :: H) w)
    (hb : w'.heap[b]? = some o') (ho : ∀ n, n ≠ b → w'.heap[n]? = w.heap[n]?) (hos : w'.os = w.os) (htape : w'.tape = w.tape) (hout : w'.output = w.output) : St E (Sx.blk b o' :: H) w' := by
  obtain ⟨h, ⟨h1, h2, rfl, s2, d, rfl⟩, dE, l⟩ := s.has
  have h2b : h2 b = none := by
    rcases d b with e | e
    · simp [Hp.one] at e
    · exact e
  have hEb : E.hp b = none := by
    rcases dE b with e | e
    · exact e
    · simp [Hp.union, Hp.one] at e
  have keep : ∀ x : Hp, x b = none → x.Le (hpOf w) → x.Le (hpOf w') := fun x xb lx n o e => by
    by_cases hn : n = b
    · subst hn; rw [xb] at e; cases e
    · show w'.heap[n]? = _; rw [ho n hn]; exact lx n o e
  exact ⟨⟨(Hp.one b o').union h2, ⟨_, h2, rfl, s2, Hp.one_disj h2b, rfl⟩,
    Hp.Disj.union_right (Hp.one_disj hEb).symm (dE.le (Hp.Le.refl _) (Hp.le_union_right d)), Hp.union_le (Hp.one_le hb) (keep h2 h2b ((Hp.le_union_right d).trans l))⟩,
    keep _ hEb s.keep, hos.trans s.os, htape.trans s.tape, hout.trans s.output⟩
theorem St.setO {E : Env} {b : Nat} {o o' : Obj} {H : List HProp} {w : World} (s : St E (Sx.blk b o :: H) w) : St E (Sx.blk b o' :: H) { w with heap := w.heap.setIfInBounds b o' } := by
  have h := MapKept.heap_set (o' := o') s.blk
  exact s.wr h.1 (fun n hn => h.2 n hn) rfl rfl rfl

theorem St.swap' {E : Env} {A B : HProp} {H : List HProp} {w : World} (s : St E (A :: B :: H) w) : St E (B :: A :: H) w := s.perm (List.Perm.swap _ _ _)
/-! ### a map's list -/
abbrev ML := List (Int × Value)
def mget : ML → Int → Option Value
  | [], _ => none
  | (b, v) :: l, a => if a = b then some v else mget l a
def mput : ML → Int → Value → ML
  | [], a, v => [(a, v)]
  | (b, u) :: l, a, v => if a = b then (b, v) :: l else (b, u) :: mput l a v
def mdel : ML → Int → ML
  | [], _ => []
  | (b, u) :: l, a => if a = b then l else (b, u) :: mdel l a
def ents (k : IntKind) (l : ML) (es : List MapEntry) : Prop := es.map (fun e => (e.key, e.val)) = l.map (fun p => (Value.int k p.1, p.2))
def Stamps (es : List MapEntry) (clock : Nat) : Prop := (es.map (·.born)).Nodup ∧ ∀ e ∈ es, e.born < clock
theorem ents_nil {k : IntKind} {es : List MapEntry} (h : ents k [] es) : es = [] := by simpa [ents] using h
theorem ents_cons {k : IntKind} {p : Int × Value} {l : ML} {es : List MapEntry} (h : ents k (p :: l) es) : ∃ e es', es = e :: es' ∧ e.key = .int k p.1 ∧ e.val = p.2 ∧ ents k l es' := by
  cases es with
  | nil => simp [ents] at h
  | cons e es' => simp only [ents, List.map_cons, List.cons.injEq, Prod.mk.injEq] at h; exact ⟨e, es', rfl, h.1.1, h.1.2, h.2⟩
theorem ents_mk {k : IntKind} {p : Int × Value} {l : ML} {e : MapEntry} {es : List MapEntry} (h1 : e.key = .int k p.1) (h2 : e.val = p.2) (h : ents k l es) : ents k (p :: l) (e :: es) := by
  simp only [ents, List.map_cons, List.cons.injEq, Prod.mk.injEq]; exact ⟨⟨h1, h2⟩, h⟩
theorem sameNow_int {kk k : IntKind} {a b : Int} : Instr.sameNow (.int kk) (.int k a) (.int k b) = some (a == b) := by simp [Instr.sameNow]
theorem findNow_none {kk k : IntKind} {a : Int} : ∀ {l : ML} {es : List MapEntry}, ents k l es → mget l a = none → ∀ i, Instr.findNow (.int kk) (.int k a) es i = some none
  | [], es, h, _, i => by rw [ents_nil h]; rfl
  | (b, u) :: l, es, h, hg, i => by
    obtain ⟨e, es', rfl, hk, _, h'⟩ := ents_cons h
    dsimp only at hk
    unfold mget at hg
    split at hg
    · cases hg
    · rename_i hne
      simp only [Instr.findNow, hk, sameNow_int, show (a == b) = false by simpa using hne]
      exact findNow_none h' hg _
theorem findNow_some {kk k : IntKind} {a : Int} {v : Value} : ∀ {l : ML} {es : List MapEntry}, ents k l es → mget l a = some v → ∃ j, j < es.length ∧ (∀ i, Instr.findNow (.int kk) (.int k a) es i = some (some (i + j, v))) ∧ (es[j]?).map (·.key) = some (.int k a) ∧
      (∀ u, ents k (mput l a u) (es.modify j fun e => { e with key := .int k a, val := u })) ∧ ents k (mdel l a) (es.eraseIdx j)
  | [], es, h, hg => by cases hg
  | (b, u) :: l, es, h, hg => by
    obtain ⟨e, es', rfl, hk, hv, h'⟩ := ents_cons h
    dsimp only at hk hv
    unfold mget at hg
    split at hg
    · rename_i he
      subst he
      obtain rfl := Option.some.inj hg
      refine ⟨0, by simp, fun i => ?_, by simp [hk], fun u' => ?_, ?_⟩
      · simp [Instr.findNow, hk, sameNow_int, hv]
      · simp only [mput, if_true, List.modify_cons, List.modifyHead]; exact ents_mk rfl rfl h'
      · simp only [mdel, if_true, List.eraseIdx_cons_zero]; exact h'
    · rename_i hne
      obtain ⟨j, hj, h1, h2, h3, h4⟩ := findNow_some (kk := kk) h' hg
      refine ⟨j + 1, by simp; omega, fun i => ?_, by simpa using h2, fun u' => ?_, ?_⟩
      · simp only [Instr.findNow, hk, sameNow_int, show (a == b) = false by simpa using hne, h1]
        rw [show i + 1 + j = i + (j + 1) by omega]
      · simp only [mput, if_neg hne, List.modify_succ_cons]; exact ents_mk hk hv (h3 u')
      · simp only [mdel, if_neg hne, List.eraseIdx_cons_succ]; exact ents_mk hk hv h4
theorem mput_none {a : Int} {v : Value} : ∀ {l : ML}, mget l a = none → mput l a v = l ++ [(a, v)]
  | [], _ => rfl
  | (b, u) :: l, h => by
    unfold mget at h
    split at h
    · cases h
    · rename_i hne; simp only [mput, if_neg hne, mput_none h, List.cons_append]
theorem mdel_none {a : Int} : ∀ {l : ML}, mget l a = none → mdel l a = l
  | [], _ => rfl
  | (b, u) :: l, h => by
    unfold mget at h
    split at h
    · cases h
    · rename_i hne; simp only [mdel, if_neg hne, mdel_none h]

/-! ### an owned map -/
def omp (k : IntKind) (r : Nat) (l : ML) : HProp := fun h => ∃ (es : List MapEntry) (clock : Nat), h = Hp.one r (.map es.toArray clock) ∧ ents k l es ∧ Stamps es clock
theorem omp_out {E : Env} {k : IntKind} {r : Nat} {l : ML} {H : List HProp} {w : World} (s : St E (omp k r l :: H) w) : ∃ (es : List MapEntry) (clock : Nat), St E (Sx.blk r (.map es.toArray clock) :: H) w ∧ ents k l es ∧ Stamps es clock := by
  obtain ⟨h, ⟨h1, h2, ⟨es, clock, rfl, h3, h4⟩, s2, d, rfl⟩, dE, lh⟩ := s.has
  exact ⟨es, clock, ⟨⟨_, ⟨_, h2, rfl, s2, d, rfl⟩, dE, lh⟩, s.keep, s.os, s.tape, s.output⟩, h3, h4⟩
theorem omp_in {E : Env} {k : IntKind} {r : Nat} {l : ML} {es : List MapEntry} {clock : Nat} {H : List HProp} {w : World} (s : St E (Sx.blk r (.map es.toArray clock) :: H) w) (h3 : ents k l es) (h4 : Stamps es clock) : St E (omp k r l :: H) w := by
  obtain ⟨h, ⟨h1, h2, rfl, s2, d, rfl⟩, dE, lh⟩ := s.has
  exact ⟨⟨_, ⟨_, h2, ⟨es, clock, rfl, h3, h4⟩, s2, d, rfl⟩, dE, lh⟩, s.keep, s.os, s.tape, s.output⟩
/-- what reads in a map that is owned, or stays -/
def Mp (E : Env) (H : List HProp) (k : IntKind) (r : Nat) (l : ML) : Prop := ∀ w, St E H w → ∃ (es : List MapEntry) (clock : Nat), w.heap[r]? = some (.map es.toArray clock) ∧ ents k l es
theorem Mp.ow {E : Env} {H : List HProp} (i : Nat) {k : IntKind} {r : Nat} {l : ML} (hi : H[i]? = some (omp k r l)) : Mp E H k r l := fun w s =>
  let ⟨es, clock, s', h, _⟩ := omp_out (s.get hi); ⟨es, clock, s'.blk, h⟩
theorem Mp.at {E : Env} {k : IntKind} {r : Nat} {l : ML} (h : At (omp k r l) E) : Mp E [] k r l := fun w s => by
  obtain ⟨x, ⟨es, clock, rfl, h3, _⟩, le⟩ := h
  exact ⟨es, clock, s.keep r _ (le r _ (by simp [Hp.one])), h3⟩
theorem Mp.up {E : Env} {H : List HProp} {k : IntKind} {r : Nat} {l : ML} (h : Mp E [] k r l) : Mp E H k r l := fun w s => h w (St.bare s)
theorem Mp.mono {E E' : Env} {k : IntKind} {r : Nat} {l : ML} (h : Mp E [] k r l) (le : E.Le E') : Mp E' [] k r l := fun w s => h w (s.le_env le)
section
variable {P : Program} {n : Nat} {f : Fr} {E : Env} {H : List HProp} {x y z : Operand} {d : Option Nat} {ty : TypeId} {pos : String} {aft : Array Edge} {g : Option (Nat × Bool)} {K : Value → List HProp → Prop}
theorem run_ck {kt : TypeId} {kk k : IntKind} {a : Int} (hk : P.underlying kt = some (.int kk)) (e : Bool) (w : World) : (Instr.checkKey e 10000 kt (.int k a)).run P w = .ok () w := by
  rw [show (10000 : Nat) = 9999 + 1 from rfl]
  unfold Instr.checkKey
  simp only [Sem.run_bind, run_underlying hk, Result.andThen]
  rfl
theorem run_fk {kt : TypeId} {kk k : IntKind} {a : Int} {es : List MapEntry} {q : Option (Nat × Value)} (hk : P.underlying kt = some (.int kk)) (h : Instr.findNow (.int kk) (.int k a) es 0 = some q) (w : World) : (Instr.findKey kt (.int k a) es).run P w = .ok q w := by
  simp [Instr.findKey, run_underlying hk, Result.andThen, h]
theorem Det.lookN {t kt e : TypeId} {kk k : IntKind} {r : Nat} {l : ML} {a : Int} {v : Value} (ht : P.underlying t = some (.map kt e)) (hk : P.underlying kt = some (.int kk)) (hm : Mp E H k r l) (hx : ev f x = .map (some r)) (hy : ev f y = .int k a) (hg : mget l a = none) (hz : ∀ w, (zeroValue e).run P w = .ok v w) :
    Det P n f E H ⟨d, .lookup t x y false, ty, pos, aft, g⟩ v := fun w a' rl s => by
  obtain ⟨es, clock, hb, he⟩ := hm w s
  have hf := findNow_none (kk := kk) he hg 0
  simp only [execOp, rl.eval, hx, hy, run_v, Instr.lookup, Sem.run_bind, run_underlying ht, Result.andThen_ok, MapKept.run_getObj_map hb, Sem.run_pure, run_ck hk, run_fk hk hf, hz]
  rfl
theorem Det.lookY {t kt e : TypeId} {kk k : IntKind} {r : Nat} {l : ML} {a : Int} {v : Value} (ht : P.underlying t = some (.map kt e)) (hk : P.underlying kt = some (.int kk)) (hm : Mp E H k r l) (hx : ev f x = .map (some r)) (hy : ev f y = .int k a) (hg : mget l a = some v) :
    Det P n f E H ⟨d, .lookup t x y false, ty, pos, aft, g⟩ v := fun w a' rl s => by
  obtain ⟨es, clock, hb, he⟩ := hm w s
  obtain ⟨j, hj, hf, _⟩ := findNow_some (kk := kk) he hg
  simp only [execOp, rl.eval, hx, hy, run_v, Instr.lookup, Sem.run_bind, run_underlying ht, Result.andThen_ok, MapKept.run_getObj_map hb, Sem.run_pure, run_ck hk, run_fk hk (hf 0)]
  rfl
theorem Det.look2N {t kt e : TypeId} {kk k : IntKind} {r : Nat} {l : ML} {a : Int} {v : Value} (ht : P.underlying t = some (.map kt e)) (hk : P.underlying kt = some (.int kk)) (hm : Mp E H k r l) (hx : ev f x = .map (some r)) (hy : ev f y = .int k a) (hg : mget l a = none) (hz : ∀ w, (zeroValue e).run P w = .ok v w) :
    Det P n f E H ⟨d, .lookup t x y true, ty, pos, aft, g⟩ (.tuple #[v, .bool false]) := fun w a' rl s => by
  obtain ⟨es, clock, hb, he⟩ := hm w s
  have hf := findNow_none (kk := kk) he hg 0
  simp only [execOp, rl.eval, hx, hy, run_v, Instr.lookup, Sem.run_bind, run_underlying ht, Result.andThen_ok, MapKept.run_getObj_map hb, Sem.run_pure, run_ck hk, run_fk hk hf, hz]
  rfl
theorem Det.look2Y {t kt e : TypeId} {kk k : IntKind} {r : Nat} {l : ML} {a : Int} {v : Value} (ht : P.underlying t = some (.map kt e)) (hk : P.underlying kt = some (.int kk)) (hm : Mp E H k r l) (hx : ev f x = .map (some r)) (hy : ev f y = .int k a) (hg : mget l a = some v) :
    Det P n f E H ⟨d, .lookup t x y true, ty, pos, aft, g⟩ (.tuple #[v, .bool true]) := fun w a' rl s => by
  obtain ⟨es, clock, hb, he⟩ := hm w s
  obtain ⟨j, hj, hf, _⟩ := findNow_some (kk := kk) he hg
  simp only [execOp, rl.eval, hx, hy, run_v, Instr.lookup, Sem.run_bind, run_underlying ht, Result.andThen_ok, MapKept.run_getObj_map hb, Sem.run_pure, run_ck hk, run_fk hk (hf 0)]
  rfl
theorem ents_len {k : IntKind} {l : ML} {es : List MapEntry} (h : ents k l es) : es.length = l.length := by have := congrArg List.length h; simpa using this
theorem Det.mlen {t kt e : TypeId} {k : IntKind} {r : Nat} {l : ML} (ht : P.underlying t = some (.map kt e)) (hm : Mp E H k r l) (hx : ev f x = .map (some r)) :
    Det P n f E H ⟨d, .call { callee := .builtin .len, args := #[x], argTypes := #[t] }, ty, pos, aft, g⟩ (.int .i64 (l.length : Nat)) := fun w a' rl s => by
  obtain ⟨es, clock, hb, he⟩ := hm w s
  simp [execOp, rl.eval, hx, resolve, invoke, builtin, Builtin.len_, run_underlying ht, goInt, MapKept.run_getObj_map hb, ents_len he]
theorem run_eqNilM {d : Nat} {t kt e : TypeId} {a : Option Nat} (hu : P.underlying t = some (.map kt e)) (w : World) : (Op.equalIn (d + 1) t (.map a) (.map none)).run P w = .ok a.isNone w := by
  simp only [Op.equalIn, Sem.run_bind, run_underlying hu, Result.andThen_ok]
  cases a <;> simp
theorem Dtu.neNilM {t t' kt e : TypeId} {a : Option Nat} (hu : P.underlying t = some (.map kt e)) (hx : ev f x = .map a) (hy : ev f y = .map none) : Dtu P n f E H ⟨d, .binOp .neq t x y t', ty, pos, aft, g⟩ (.bool (!a.isNone)) := fun w0 s w a' r => by
  have e1 : (eqGuard .neq t x y (.map a) (.map none)).run P w = .ok () w := rfl
  have e2 : (Op.equal t (.map a) (.map none)).run P w = .ok a.isNone w := run_eqNilM (d := 9999) hu w
  simp only [execOp, r.eval, hx, hy, Sem.run_bind, e1, Result.andThen_ok, binOp, e2, Sem.run_pure]
theorem stamps_nil (c : Nat) : Stamps [] c := ⟨by simp, by simp⟩
theorem Stp.makeMap (k : IntKind) {t : TypeId} (q : ∀ r, K (.map (some r)) (omp k r [] :: H)) : Stp true P n f E H ⟨d, .makeMap t none, ty, pos, aft, g⟩ K := fun w a s0 s => by
  obtain ⟨s2, x⟩ := s.newO (.map #[] 0)
  have e : (execOp a.eval ⟨d, .makeMap t none, ty, pos, aft, g⟩).run P w = .ok (.value (.map (some w.heap.size))) { w with heap := w.heap.push (.map #[] 0) } := by
    simp only [execOp, run_v, Option.map_none]
    rfl
  unfold OpR; rw [e]
  exact ⟨fun _ => x, _, q _, omp_in (es := []) s2 rfl (stamps_nil 0)⟩
theorem modify_born (es : List MapEntry) (j : Nat) (key v : Value) : (es.modify j fun e => { e with key := key, val := v }).map (·.born) = es.map (·.born) := by
  induction es generalizing j with
  | nil => simp
  | cons e es ih => cases j <;> simp [ih]
theorem Stamps.mod {es : List MapEntry} {c : Nat} (h : Stamps es c) (j : Nat) (key v : Value) : Stamps (es.modify j fun e => { e with key := key, val := v }) c := by
  refine ⟨by rw [modify_born]; exact h.1, fun e he => ?_⟩
  have : e.born ∈ (es.modify j fun e => { e with key := key, val := v }).map (·.born) := List.mem_map_of_mem he
  rw [modify_born] at this
  obtain ⟨e', h1, h2⟩ := List.mem_map.1 this
  rw [← h2]; exact h.2 e' h1
theorem Stamps.erase {es : List MapEntry} {c : Nat} (h : Stamps es c) (j : Nat) : Stamps (es.eraseIdx j) c := by
  refine ⟨?_, fun e he => h.2 e ((List.eraseIdx_sublist es j).subset he)⟩
  exact h.1.sublist ((List.eraseIdx_sublist es j).map _)
theorem Stamps.push {es : List MapEntry} {c : Nat} (h : Stamps es c) (key v : Value) : Stamps (es ++ [{ key, val := v, born := c }]) (c + 1) := by
  refine ⟨?_, fun e he => ?_⟩
  · rw [List.map_append, List.nodup_append]
    refine ⟨h.1, by simp, fun a ha b hb => ?_⟩
    obtain ⟨e, he, rfl⟩ := List.mem_map.1 ha
    have := h.2 e he
    simp at hb
    omega
  · rcases List.mem_append.1 he with he | he
    · have := h.2 e he; omega
    · simp at he; subst he; simp
theorem ents_snoc {k : IntKind} {l : ML} {es : List MapEntry} (h : ents k l es) (a : Int) (v : Value) (c : Nat) : ents k (l ++ [(a, v)]) (es ++ [{ key := .int k a, val := v, born := c }]) := by
  simp only [ents, List.map_append, List.map_cons, List.map_nil] at h ⊢; rw [h]
theorem run_mapUpdate_ml {t kt e : TypeId} {kk k : IntKind} {r : Nat} {l : ML} {es : List MapEntry} {clock : Nat} {a : Int} {v : Value} {w : World} (ht : P.underlying t = some (.map kt e)) (hk : P.underlying kt = some (.int kk)) (hb : w.heap[r]? = some (.map es.toArray clock)) (he : ents k l es) (hs : Stamps es clock) :
    ∃ es' clock', (Instr.mapUpdate t (.map (some r)) (.int k a) v).run P w = .ok () { w with heap := w.heap.setIfInBounds r (.map es'.toArray clock') } ∧ ents k (mput l a v) es' ∧ Stamps es' clock' := by
  cases hg : mget l a with
  | none =>
    have hf := findNow_none (kk := kk) he hg 0
    refine ⟨es ++ [{ key := .int k a, val := v, born := clock }], clock + 1, ?_, by rw [mput_none hg]; exact ents_snoc he _ _ _, hs.push _ _⟩
    simp only [Instr.mapUpdate, Sem.run_bind, run_underlying ht, Result.andThen_ok, MapKept.run_getObj_map hb, run_ck hk, run_fk hk hf, MapKept.run_setObj_map _ hb]
    congr 5
    simp
  | some u =>
    obtain ⟨j, hj, hf, hkey, hp, _⟩ := findNow_some (kk := kk) he hg
    refine ⟨_, clock, ?_, hp v, hs.mod j _ _⟩
    have hks : (Instr.keyThatStays (.int k a) (.int k a)).run P w = .ok (.int k a) w := by simp [Instr.keyThatStays, Instr.sameBits]
    have hget : (((es.toArray[0 + j]?).map (·.key)).getD (.int k a)) = .int k a := by
      rw [Nat.zero_add]
      have : es.toArray[j]? = es[j]? := by simp
      rw [this, hkey]; rfl
    simp only [Instr.mapUpdate, Sem.run_bind, run_underlying ht, Result.andThen_ok, MapKept.run_getObj_map hb, run_ck hk, run_fk hk (hf 0), hget, hks, MapKept.run_setObj_map _ hb]
    congr 5
    simp
theorem Stp.mput (i : Nat) {t kt e : TypeId} {kk k : IntKind} {r : Nat} {l : ML} {a : Int} {v : Value} {H' : List HProp} (ht : P.underlying t = some (.map kt e)) (hk : P.underlying kt = some (.int kk)) (hi : H[i]? = some (omp k r l)) (hx : ev f x = .map (some r)) (hy : ev f y = .int k a) (hz : ev f z = v)
    (hH : setL H i (omp k r (mput l a v)) = some H') (q : K undef H') : Stp false P n f E H ⟨d, .mapUpdate t x y z, ty, pos, aft, g⟩ K := fun w a' rl s => by
  obtain rfl := setL_eq hH
  obtain ⟨es, clock, s1, he, hs⟩ := omp_out (s.get hi)
  obtain ⟨es', clock', hrun, he', hs'⟩ := run_mapUpdate_ml (P := P) (a := a) (v := v) ht hk s1.blk he hs
  have e : (execOp a'.eval ⟨d, .mapUpdate t x y z, ty, pos, aft, g⟩).run P w = .ok .skip { w with heap := w.heap.setIfInBounds r (.map es'.toArray clock') } := by
    simp only [execOp, rl.eval, hx, hy, hz, run_u, hrun, Result.andThen_ok]
  unfold OpR; rw [e]
  exact ⟨fun e => (by cases e), _, q, St.put hi (omp_in s1.setO he' hs')⟩
theorem run_delete_ml {t kt e : TypeId} {tk : TypeId} {kk k : IntKind} {r : Nat} {l : ML} {es : List MapEntry} {clock : Nat} {a : Int} {w : World} (ht : P.underlying t = some (.map kt e)) (hk : P.underlying kt = some (.int kk)) (hb : w.heap[r]? = some (.map es.toArray clock)) (he : ents k l es) :
    ∃ j, ((mget l a = none ∧ es.length ≤ j) ∨ (mget l a ≠ none ∧ j < es.length)) ∧ (∀ ty, (Builtin.delete_ #[t, tk] ty #[.map (some r), .int k a]).run P w = .ok (.tuple #[]) { w with heap := w.heap.setIfInBounds r (.map (es.eraseIdx j).toArray clock) }) ∧ ents k (mdel l a) (es.eraseIdx j) := by
  cases hg : mget l a with
  | none =>
    have hf := findNow_none (kk := kk) he hg 0
    refine ⟨es.length, .inl ⟨rfl, Nat.le_refl _⟩, fun ty => ?_, ?_⟩
    · rw [List.eraseIdx_of_length_le (Nat.le_refl _)]
      simp [Builtin.delete_, run_underlying ht, MapKept.run_getObj_map hb, run_ck hk, run_fk hk hf, MapKept.run_setObj_map _ hb]
    · rw [List.eraseIdx_of_length_le (Nat.le_refl _), mdel_none hg]; exact he
  | some u =>
    obtain ⟨j, hj, hf, hkey, _, hd⟩ := findNow_some (kk := kk) he hg
    refine ⟨j, .inr ⟨by simp, hj⟩, fun ty => ?_, hd⟩
    simp [Builtin.delete_, run_underlying ht, MapKept.run_getObj_map hb, run_ck hk, run_fk hk (hf 0), MapKept.run_setObj_map _ hb, Array.eraseIdxIfInBounds, hj]
theorem Stp.mdel (i : Nat) {t kt e tk : TypeId} {kk k : IntKind} {r : Nat} {l : ML} {a : Int} {H' : List HProp} (ht : P.underlying t = some (.map kt e)) (hk : P.underlying kt = some (.int kk)) (hi : H[i]? = some (omp k r l)) (hx : ev f x = .map (some r)) (hy : ev f y = .int k a)
    (hH : setL H i (omp k r (mdel l a)) = some H') (q : K (.tuple #[]) H') : Stp false P n f E H ⟨d, .call { callee := .builtin .delete, args := #[x, y], argTypes := #[t, tk] }, ty, pos, aft, g⟩ K := fun w a' rl s => by
  obtain rfl := setL_eq hH
  obtain ⟨es, clock, s1, he, hs⟩ := omp_out (s.get hi)
  obtain ⟨j, _, hrun, he'⟩ := run_delete_ml (P := P) (tk := tk) (a := a) ht hk s1.blk he
  have e : (execOp a'.eval ⟨d, .call { callee := .builtin .delete, args := #[x, y], argTypes := #[t, tk] }, ty, pos, aft, g⟩).run P w = .ok (.value (.tuple #[])) { w with heap := w.heap.setIfInBounds r (.map (es.eraseIdx j).toArray clock) } := by
    have := hrun ty
    simp [execOp, rl.eval, hx, hy, resolve, invoke, builtin, this]
  unfold OpR; rw [e]
  exact ⟨fun e => (by cases e), _, q, St.put hi (omp_in s1.setO he' (hs.erase j))⟩

/-! ### range -/
/-- what the iterator told last -/
def CurOf (k : IntKind) (es : List MapEntry) (seen : Array Nat) (last clock : Nat) (cur : Option (Int × Value)) : Prop :=
  ∀ p, cur = some p → ∃ e, seen.back? = some e.born ∧ es.find? (fun x => x.born == e.born) = some e ∧ e.key = .int k p.1 ∧ e.val = p.2 ∧ clock = last
theorem CurOf.none (k : IntKind) (es : List MapEntry) (seen : Array Nat) (last clock : Nat) : CurOf k es seen last clock none := fun p h => by cases h
def ItrOk (k : IntKind) (l rem : ML) (cur : Option (Int × Value)) (es : List MapEntry) (clock since : Nat) (seen : Array Nat) (last : Nat) : Prop :=
  ents k l es ∧ Stamps es clock ∧ (∀ e ∈ es, e.born < since) ∧ since ≤ last ∧ since ≤ clock ∧ ents k rem (es.filter fun e => !seen.contains e.born) ∧ CurOf k es seen last clock cur
def itr (k : IntKind) (b r : Nat) (l rem : ML) (cur : Option (Int × Value)) : HProp := fun h => ∃ (es : List MapEntry) (clock since : Nat) (seen : Array Nat) (last : Nat),
  Sat [Sx.blk r (.map es.toArray clock), Sx.blk b (.mapIter (some r) since seen last)] h ∧ ItrOk k l rem cur es clock since seen last
theorem itr_out {k : IntKind} {b r : Nat} {l rem : ML} {cur : Option (Int × Value)} {w : World} (s : St E (itr k b r l rem cur :: H) w) : ∃ (es : List MapEntry) (clock since : Nat) (seen : Array Nat) (last : Nat),
    St E (Sx.blk r (.map es.toArray clock) :: Sx.blk b (.mapIter (some r) since seen last) :: H) w ∧ ItrOk k l rem cur es clock since seen last := by
  obtain ⟨h, ⟨h1, h2, ⟨es, clock, since, seen, last, s1, hh⟩, s2, d, rfl⟩, dE, lh⟩ := s.has
  exact ⟨es, clock, since, seen, last, ⟨⟨_, Sat.append.2 ⟨h1, h2, s1, s2, d, rfl⟩, dE, lh⟩, s.keep, s.os, s.tape, s.output⟩, hh⟩
theorem itr_in {k : IntKind} {b r : Nat} {l rem : ML} {cur : Option (Int × Value)} {w : World} {es : List MapEntry} {clock since : Nat} {seen : Array Nat} {last : Nat} (s : St E (Sx.blk r (.map es.toArray clock) :: Sx.blk b (.mapIter (some r) since seen last) :: H) w)
    (hh : ItrOk k l rem cur es clock since seen last) : St E (itr k b r l rem cur :: H) w := by
  obtain ⟨h, s0, dE, lh⟩ := s.has
  obtain ⟨h1, h2, s1, s2, d, rfl⟩ := (Sat.append (H := [_, _])).1 s0
  exact ⟨⟨_, ⟨h1, h2, ⟨es, clock, since, seen, last, s1, hh⟩, s2, d, rfl⟩, dE, lh⟩, s.keep, s.os, s.tape, s.output⟩
theorem Mp.itr (i : Nat) {k : IntKind} {b r : Nat} {l rem : ML} {cur : Option (Int × Value)} (hi : H[i]? = some (Sx.itr k b r l rem cur)) : Mp E H k r l := fun w s =>
  let ⟨es, clock, _, _, _, s', h, _⟩ := itr_out (s.get hi); ⟨es, clock, s'.blk, h⟩
theorem Stp.range (i : Nat) {t kt e : TypeId} {k : IntKind} {r : Nat} {l : ML} (ht : P.underlying t = some (.map kt e)) (hi : H[i]? = some (omp k r l)) (hx : ev f x = .map (some r)) (q : ∀ b, K (.pointer (some ⟨b, 0, none⟩)) (itr k b r l l none :: H.eraseIdx i)) :
    Stp false P n f E H ⟨d, .range t x, ty, pos, aft, g⟩ K := fun w a rl s => by
  obtain ⟨es, clock, s1, he, hs⟩ := omp_out (s.get hi)
  obtain ⟨s2, _⟩ := s1.newO (.mapIter (some r) clock #[] clock)
  have e : (execOp a.eval ⟨d, .range t x, ty, pos, aft, g⟩).run P w = .ok (.value (.pointer (some ⟨w.heap.size, 0, none⟩))) { w with heap := w.heap.push (.mapIter (some r) clock #[] clock) } := by
    simp only [execOp, rl.eval, hx, run_v, run_range_map w t kt e r es.toArray clock ht s1.blk, Result.andThen_ok]
    rfl
  unfold OpR; rw [e]
  refine ⟨fun e => (by cases e), _, q _, itr_in (seen := #[]) s2.swap' ⟨he, hs, hs.2, Nat.le_refl _, Nat.le_refl _, ?_, CurOf.none _ _ _ _ _⟩⟩
  have : (es.filter fun e => !(#[] : Array Nat).contains e.born) = es := List.filter_eq_self.2 fun e _ => by simp
  rw [this]; exact he
theorem run_next_ml (w : World) (nty : TypeId) (bm bi since c0 : Nat) (seen : Array Nat) (es : Array MapEntry) (clock : Nat) (hb : w.heap[bm]? = some (.map es clock)) (hi : w.heap[bi]? = some (.mapIter (some bm) since seen c0)) (hold : ∀ x ∈ es.toList, x.born < since) (hsc : since ≤ c0) :
    ((leftOf es seen).size = 0 ∧ (Instr.next (.pointer (some ⟨bi, 0, none⟩)) false nty).run P w = .ok (.tuple #[.bool false]) w) ∨
    ∃ (j : Nat) (e : MapEntry), (leftOf es seen).toList[j]? = some e ∧ ∃ w1 : World, (w1 = w ∨ w1 = w.drew) ∧ (Instr.next (.pointer (some ⟨bi, 0, none⟩)) false nty).run P w = .ok (.tuple #[.bool true, e.key, e.val]) { w1 with heap := w1.heap.setIfInBounds bi (.mapIter (some bm) since (seen.push e.born) clock) } := by
  simp only [Instr.next, getObj, Sem.run_bind, Sem.run, hi, hb, Result.andThen, next_test_false seen es since c0 hold hsc, Bool.false_eq_true, if_false]
  unfold leftOf
  have hmem : ∀ x ∈ (Array.filter (fun e => !seen.contains e.born) es).toList, x.born < since := fun x hx => hold x (by simp at hx ⊢; exact hx.1)
  generalize Array.filter (fun e => !seen.contains e.born) es = L at hmem ⊢
  have e1 : L.filter (fun x => decide (x.born < since)) = L := Array.filter_eq_self.2 (fun x hx => by simpa using hmem x (by simpa using hx))
  have e2 : L.filter (fun x => decide (x.born ≥ since)) = #[] := by
    rw [Array.filter_eq_empty_iff]
    intro x hx
    have := hmem x (by simpa using hx)
    simp
    omega
  simp only [e1, e2, Array.append_empty]
  by_cases h0 : L.size = 0
  · left
    have : L = #[] := Array.eq_empty_of_size_eq_zero h0
    subst this
    refine ⟨rfl, ?_⟩
    simp [choose, Sem.run, Question.forced]
  · right
    have hne : L.isEmpty = false := by simp [Array.isEmpty, h0]
    simp only [hne, Bool.false_eq_true, if_false, Array.empty_append, Array.size_map]
    have hch : ∃ (j : Nat) (w1 : World), j < L.size ∧ (w1 = w ∨ w1 = w.drew) ∧ (choose (Question.mapNext L.size)).run P w = .ok j w1 := by
      by_cases hf : L.size ≤ 1
      · exact ⟨0, w, by omega, .inl rfl, by simp [choose, Sem.run, Question.forced, hf]⟩
      · exact ⟨_, w.drew, Nat.mod_lt _ (by omega), .inr rfl, by
          simp only [choose, Sem.run, Question.forced, decide_eq_true_eq, hf, if_false, Question.cut]
          rfl⟩
    obtain ⟨j, w1, hj, hal, hrun⟩ := hch
    refine ⟨j, L[j], by simp [hj], w1, hal, ?_⟩
    have hi1 : w1.heap[bi]? = some (.mapIter (some bm) since seen c0) := by rcases hal with rfl | rfl <;> exact hi
    simp only [hrun, Array.getElem?_map, Array.getElem?_eq_getElem hj, Option.map_some, Sem.run_bind, setObj, Sem.run, hi1, Result.andThen]
    rfl
theorem ents_split {k : IntKind} : ∀ {l : ML} {es : List MapEntry}, ents k l es → ∀ {j : Nat} {e : MapEntry}, es[j]? = some e → ∃ (a c : ML) (p : Int × Value), l = a ++ p :: c ∧ e.key = .int k p.1 ∧ e.val = p.2 ∧ ents k (a ++ c) (es.eraseIdx j)
  | [], es, h, j, e, hj => by rw [ents_nil h] at hj; simp at hj
  | p :: l, es, h, j, e, hj => by
    obtain ⟨e0, es', rfl, hk, hv, h'⟩ := ents_cons h
    cases j with
    | zero => simp at hj; subst hj; exact ⟨[], l, p, rfl, hk, hv, h'⟩
    | succ j =>
      obtain ⟨a, c, q, rfl, h1, h2, h3⟩ := ents_split h' (by simpa using hj)
      exact ⟨p :: a, c, q, rfl, h1, h2, ents_mk hk hv h3⟩
theorem filter_erase (es : List MapEntry) (seen : Array Nat) (hn : (es.map (·.born)).Nodup) {j : Nat} {e : MapEntry} (hj : (es.filter fun e => !seen.contains e.born)[j]? = some e) :
    (es.filter fun x => !(seen.push e.born).contains x.born) = (es.filter fun e => !seen.contains e.born).eraseIdx j := by
  have h1 : (es.filter fun x => !(seen.push e.born).contains x.born) = (es.filter fun e => !seen.contains e.born).filter fun x => !(x.born == e.born) := by
    rw [List.filter_filter]
    congr 1
    funext x
    simp only [Array.contains_push, Bool.not_or]
    cases (seen.contains x.born) <;> cases (x.born == e.born) <;> rfl
  rw [h1]
  have hn2 : ((es.filter fun e => !seen.contains e.born).map (·.born)).Nodup := hn.sublist (List.filter_sublist.map _)
  generalize (es.filter fun e => !seen.contains e.born) = L at hj hn2
  clear h1 hn
  induction L generalizing j with
  | nil => simp at hj
  | cons x L ih =>
    have hx : x.born ∉ L.map (·.born) ∧ (L.map (·.born)).Nodup := List.nodup_cons.1 hn2
    cases j with
    | zero =>
      simp at hj; subst hj
      rw [List.filter_cons_of_neg (by simp), List.eraseIdx_cons_zero, List.filter_eq_self]
      intro y hy
      have : y.born ≠ x.born := fun h => hx.1 (by rw [← h]; exact List.mem_map_of_mem hy)
      simpa using this
    | succ j =>
      have hj' : L[j]? = some e := by simpa using hj
      have hne : x.born ≠ e.born := fun h => hx.1 (by rw [h]; exact List.mem_map_of_mem (List.mem_of_getElem? hj'))
      rw [List.filter_cons_of_pos (by simpa using hne), List.eraseIdx_cons_succ, ih hj' hx.2]
theorem find_born : ∀ {es : List MapEntry} {e : MapEntry}, (es.map (·.born)).Nodup → e ∈ es → es.find? (fun x => x.born == e.born) = some e
  | [], _, _, h => by cases h
  | x :: es, e, hn, h => by
    rw [List.map_cons, List.nodup_cons] at hn
    rcases List.mem_cons.1 h with rfl | h
    · simp
    · have : (x.born == e.born) = false := by
        simp only [beq_eq_false_iff_ne, ne_eq]
        intro hb
        exact hn.1 (by rw [hb]; exact List.mem_map_of_mem h)
      rw [List.find?_cons_of_neg (by simp [this])]
      exact find_born hn.2 h
theorem Stp.next (i : Nat) {k : IntKind} {b r : Nat} {l rem : ML} {cur : Option (Int × Value)} (hi : H[i]? = some (itr k b r l rem cur)) (hx : ev f x = .pointer (some ⟨b, 0, none⟩)) (q0 : rem = [] → K (.tuple #[.bool false]) H)
    {H' : ML → ML → (Int × Value) → List HProp} (hH : ∀ a c p, setL H i (itr k b r l (a ++ c) (some p)) = some (H' a c p)) (q1 : ∀ (a c : ML) (p : Int × Value), rem = a ++ p :: c → K (.tuple #[.bool true, .int k p.1, p.2]) (H' a c p)) : Stp false P n f E H ⟨d, .next x false, ty, pos, aft, g⟩ K := fun w a rl s => by
  obtain ⟨es, clock, since, seen, last, s1, he, hs, hold, h1, h2, hr, hcur⟩ := itr_out (s.get hi)
  have hl : (leftOf es.toArray seen).toList = es.filter fun e => !seen.contains e.born := by simp [leftOf]
  rcases run_next_ml (P := P) w ty r b since last seen es.toArray clock s1.blk s1.swap'.blk (by simpa using hold) h1 with ⟨h0, hrun⟩ | ⟨j, e, hj, w1, hw, hrun⟩
  · have e : (execOp a.eval ⟨d, .next x false, ty, pos, aft, g⟩).run P w = .ok (.value (.tuple #[.bool false])) w := by
      simp only [execOp, rl.eval, hx, run_v, hrun, Result.andThen_ok]
    have hnil : rem = [] := by
      have : (es.filter fun e => !seen.contains e.born).length = 0 := by rw [← hl]; simpa using h0
      rw [List.length_eq_zero_iff.1 this] at hr
      have := ents_len hr
      exact List.length_eq_zero_iff.1 (by simpa using this.symm)
    unfold OpR; rw [e]
    exact ⟨fun e => (by cases e), _, q0 hnil, s⟩
  · have e' : (execOp a.eval ⟨d, .next x false, ty, pos, aft, g⟩).run P w = .ok (.value (.tuple #[.bool true, e.key, e.val])) { w1 with heap := w1.heap.setIfInBounds b (.mapIter (some r) since (seen.push e.born) clock) } := by
      simp only [execOp, rl.eval, hx, run_v, hrun, Result.andThen_ok]
    rw [hl] at hj
    obtain ⟨a1, c1, p, hrem, hk, hv, hr2⟩ := ents_split hr hj
    have hH' := hH a1 c1 p
    unfold OpR; rw [e']
    rw [hk, hv]
    refine ⟨fun e => (by cases e), _, q1 a1 c1 p hrem, ?_⟩
    rw [← setL_eq hH']
    refine St.put hi (itr_in (seen := seen.push e.born) (last := clock) (St.swap' (St.setO (o' := .mapIter (some r) since (seen.push e.born) clock) (o := .mapIter (some r) since seen last) ?_)) ⟨he, hs, hold, h2, h2, ?_, ?_⟩)
    · rcases hw with rfl | rfl
      · exact s1.swap'
      · exact s1.swap'.draw
    · rw [filter_erase es seen hs.1 hj]; exact hr2
    · intro q hq
      obtain rfl := Option.some.inj hq
      refine ⟨e, by simp, ?_, hk, hv, rfl⟩
      have hmem : e ∈ es := (List.mem_filter.1 (List.mem_of_getElem? hj)).1
      exact find_born hs.1 hmem
end
end Go.Sx
end
section
/- My own logic of ownership over the model, part J: joins and loops whose frames are told by the slots that live on alone. -/
namespace Go.Sx
open Go
set_option linter.unusedVariables false
/-- what these slots hold -/
def looksO (F : List Ent) : List Nat → Option (List (Nat × Value))
  | [] => some []
  | k :: ks => match look F k with
    | some v => match looksO F ks with
      | some r => some ((k, v) :: r)
      | none => none
    | none => none
theorem looksO_all {F : List Ent} : ∀ {ks : List Nat} {C : List (Nat × Value)}, looksO F ks = some C → LookAll F C
  | [], C, h => by simp only [looksO, Option.some.injEq] at h; subst h; exact trivial
  | k :: ks, C, h => by
    simp only [looksO] at h
    split at h
    · rename_i v hv
      split at h
      · rename_i r hr
        obtain rfl := Option.some.inj h
        exact ⟨hv, looksO_all hr⟩
      · cases h
    · cases h
theorem LookAll.app {F : List Ent} : ∀ {L C : List (Nat × Value)}, LookAll F L → LookAll F C → LookAll F (L ++ C)
  | [], _, _, h => h
  | (_, _) :: _, _, ⟨h1, h2⟩, h => ⟨h1, LookAll.app h2 h⟩
theorem sets_app : ∀ (L C : List (Nat × Value)), sets (L ++ C) = sets L ++ sets C
  | [], _ => rfl
  | (i, v) :: r, C => by simp only [List.cons_append, sets, sets_app r C]
theorem fr_all {F : List Ent} {L C : List (Nat × Value)} (hL : LookAll F L) (hC : LookAll F C) : fr (sets L ++ (sets C ++ [.all (fr F)])) = fr F := by
  rw [← List.append_assoc, ← sets_app]
  funext t
  exact fr_sets (F := F) (G := [.all (fr F)]) (L ++ C) (hL.app hC) (fun t => rfl) t
def HeadL {γ : Type} (L : γ → List (Nat × Value)) (Hs : γ → List HProp) (Φ : γ → Prop) (C : List (Nat × Value)) (E : Env) (g : γ) (f : Fr) (H : List HProp) : Prop :=
  Φ g ∧ (∀ w, St E H w → St E (Hs g) w) ∧ ∃ u, f = fr (sets (L g) ++ (sets C ++ [.all u]))
def keysOf (C : List (Nat × Value)) : List Nat := C.map Prod.fst
/-- what is owned, written out -/
def updsO (H : List HProp) : List (Nat × HProp) → Option (List HProp)
  | [] => some H
  | (i, A) :: r => match setL H i A with
    | some H' => updsO H' r
    | none => none
/-- the frame, written out -/
def frO (C : List (Nat × Value)) (u : Fr) : List (Nat × Value) → Option (List Ent)
  | [] => match C with
    | [] => some [.all u]
    | (i, v) :: r => match frO2 u r with
      | some G => some (.set i v :: G)
      | none => none
  | (i, v) :: r => match frO C u r with
    | some G => some (.set i v :: G)
    | none => none
where frO2 (u : Fr) : List (Nat × Value) → Option (List Ent)
  | [] => some [.all u]
  | (i, v) :: r => match frO2 u r with
    | some G => some (.set i v :: G)
    | none => none
theorem frO2_eq {u : Fr} : ∀ {C : List (Nat × Value)} {G : List Ent}, frO.frO2 u C = some G → sets C ++ [.all u] = G
  | [], G, h => Option.some.inj h
  | (i, v) :: r, G, h => by
    simp only [frO.frO2] at h
    split at h
    · rename_i G' h'
      obtain rfl := Option.some.inj h
      simp only [sets, List.cons_append, frO2_eq h']
    · cases h
theorem frO_eq {C : List (Nat × Value)} {u : Fr} : ∀ {L : List (Nat × Value)} {G : List Ent}, frO C u L = some G → sets L ++ (sets C ++ [.all u]) = G
  | [], G, h => by
    cases C with
    | nil => exact Option.some.inj h
    | cons p r =>
      obtain ⟨i, v⟩ := p
      simp only [frO] at h
      split at h
      · rename_i G' h'
        obtain rfl := Option.some.inj h
        simp only [sets, List.cons_append, List.nil_append, frO2_eq h']
      · cases h
  | (i, v) :: r, G, h => by
    simp only [frO] at h
    split at h
    · rename_i G' h'
      obtain rfl := Option.some.inj h
      simp only [sets, List.cons_append, frO_eq h']
    · cases h
section
variable {P : Program} {n : Nat} {F : List Ent} {E : Env} {H : List HProp} {K : Kont}
/-- a loop, told by what changes; the other slots that live on are ks -/
theorem Body.loopL {c : Code} {γ : Type} (ks : List Nat) {C : List (Nat × Value)} {Hs : γ → List HProp} {G : γ → Fr → List Ent} (hC : looksO F ks = some C) (L : γ → List (Nat × Value)) (ch : γ → List (Nat × HProp)) (hHs : ∀ g, updsO H (ch g) = some (Hs g)) (hG : ∀ g u, frO C u (L g) = some (G g u))
    (Φ : γ → Prop) (μ : γ → Nat) (g0 : γ) (h0 : Φ g0) (hL : LookAll F (L g0)) (hH : H = Hs g0)
    (round : ∀ g u, Φ g → Body P n c (fr (G g u)) E (Hs g) (Round (HeadL L Hs Φ C E) μ g K)) : Body P n (.loop c) (fr F) E H K := by
  refine Body.loop (HeadL L Hs Φ C E) μ g0 ⟨h0, fun w s => by rw [← hH]; exact s, fr F, (fr_all hL (looksO_all hC)).symm⟩ ?_
  rintro g f H ⟨h1, hc, u, rfl⟩
  rw [frO_eq (hG g u)]
  exact Body.conseq hc (round g u h1)
/-- two ways come together, told by what changes -/
theorem Body.seqL {c d : Code} {γ : Type} (ks : List Nat) {C : List (Nat × Value)} {Hs : γ → List HProp} {G : γ → Fr → List Ent} (hC : looksO F ks = some C) (L : γ → List (Nat × Value)) (ch : γ → List (Nat × HProp)) (hHs : ∀ g, updsO H (ch g) = some (Hs g)) (hG : ∀ g u, frO C u (L g) = some (G g u))
    (Φ : γ → Prop) (h1 : Body P n c (fr F) E H (Joint (fun f H' => ∃ g, HeadL L Hs Φ C E g f H') K)) (h2 : ∀ g u, Φ g → Body P n d (fr (G g u)) E (Hs g) K) : Body P n (.seq c d) (fr F) E H K :=
  Body.seq (Body.mono h1 fun e f H k => by
    cases e with
    | norm =>
      obtain ⟨g, hΦ, hc, u, rfl⟩ := k
      show Body P n d (fr (sets (L g) ++ (sets C ++ [.all u]))) E H K
      rw [frO_eq (hG g u)]
      exact Body.conseq hc (h2 g u hΦ)
    | exit id => exact k
    | ret => exact k)
theorem Joint.goL {γ : Type} {L : γ → List (Nat × Value)} {Hs : γ → List HProp} {Φ : γ → Prop} {C : List (Nat × Value)} {A B : List HProp} (is : List Nat) (g' : γ) (hC : looksO F (keysOf C) = some C) (hL : LookAll F (L g')) (hp : pick is H = some (A, B)) (hH : A = Hs g') (h : Φ g') :
    Joint (fun f H => ∃ g, HeadL L Hs Φ C E g f H) K .norm (fr F) H :=
  ⟨g', h, fun w s => by rw [← hH]; exact pk is hp w s, fr F, (fr_all hL (looksO_all hC)).symm⟩
theorem Round.goL {γ : Type} {L : γ → List (Nat × Value)} {Hs : γ → List HProp} {Φ : γ → Prop} {μ : γ → Nat} {g : γ} {C : List (Nat × Value)} {A B : List HProp} (is : List Nat) (g' : γ) (hC : looksO F (keysOf C) = some C) (hL : LookAll F (L g')) (hp : pick is H = some (A, B)) (hH : A = Hs g') (h : Φ g') (hm : μ g' < μ g) :
    Round (HeadL L Hs Φ C E) μ g K .norm (fr F) H :=
  ⟨g', ⟨h, fun w s => by rw [← hH]; exact pk is hp w s, fr F, (fr_all hL (looksO_all hC)).symm⟩, hm⟩
end
/-! ### blocks whose cells are told by facts -/
theorem all_one {us : List Value} (h : us.all (·.oneCell') = true) : us.all (·.oneCell') = true := h
theorem cellEq {vs : List Value} {i j : Nat} {v : Value} (h : vs[i]? = some v) (e : i = j) : vs[j]? = some v := e ▸ h
/-- these cells, written there, make those -/
def PutC (vs : List Value) (off : Nat) (us vs' : List Value) : Prop := off + us.length ≤ vs.length ∧ vs.take off ++ us ++ vs.drop (off + us.length) = vs'
section
variable {P : Program} {n : Nat} {f : Fr} {E : Env} {H : List HProp} {d : Option Nat} {ty : TypeId} {pos : String} {aft : Array Edge} {g : Option (Nat × Bool)} {x y : Operand} {K : Value → List HProp → Prop}
theorem Stp.storeC (i : Nat) {T : TypeId} {b off off' m : Nat} {vs us vs' : List Value} {t : TypeId} {v : Value} {H' : List HProp} (h : PutC vs off us vs') (he : off = off') (hm : ∀ w, (sizeOf T).run P w = .ok m w) (hx : ev f x = .pointer (some ⟨b, off', none⟩)) (hy : ev f y = v) (hv : v.cells = us.toArray) (hul : us.length = m)
    (hi : H[i]? = some (own b vs t)) (h1 : us.all (·.oneCell') = true) (hH : setL H i (own b vs' t) = some H') (k : K undef H') :
    Stp false P n f E H ⟨d, .store T x y, ty, pos, aft, g⟩ K := by
  subst he hul
  obtain ⟨h2, h3⟩ := h
  exact Stp.store i hm hx hy hv rfl hi (Nat.ble_eq_true_of_le h2) h1 (by rw [h3]; exact forceL_some _) hH k
end
end Go.Sx
end
section
/- My own logic of ownership over the model, part K: what a pool of owned things gives; what a contract gives beside things that it does not touch. -/
namespace Go.Sx
open Go
set_option linter.unusedVariables false
theorem poolAt {L : List HProp} {E : Env} (h : At (many L) E) : ∀ A ∈ L, At A E := by
  obtain ⟨x, hx, le⟩ := h
  have : ∀ (H : List HProp) (h : Hp) (A : HProp), Sat H h → A ∈ H → ∃ y, A y ∧ y.Le h := by
    intro H
    induction H with
    | nil => intro h A _ hm; cases hm
    | cons B H ih =>
      intro h A hs hm
      obtain ⟨h1, h2, a, b, c, rfl⟩ := hs
      rcases List.mem_cons.1 hm with rfl | hm
      · exact ⟨h1, a, Hp.le_union_left _ _⟩
      · obtain ⟨y, hy, l⟩ := ih h2 A b hm
        exact ⟨y, hy, l.trans (Hp.le_union_right c)⟩
  intro A hA
  obtain ⟨y, hy, l⟩ := this L x A hx hA
  exact ⟨y, hy, l.trans le⟩
theorem poolSl {L : List HProp} {E : Env} {t : TypeId} {sz m : Nat} {v : Value} {vs : List Value} (h : At (many L) E) (hm : osl t sz v m vs ∈ L) : Sl E [] sz v m vs := Sl.at (poolAt h _ hm)
theorem poolCons {E : Env} {A : HProp} {L H : List HProp} {w : World} (s : St E (A :: many L :: H) w) : St E (many (A :: L) :: H) w := many_iff.2 (by
  have s1 : St E (L ++ (A :: H)) w := many_iff.1 (s.perm (List.Perm.swap _ _ _))
  exact s1.perm List.perm_middle)
theorem poolOut {E : Env} {A : HProp} {L H : List HProp} {w : World} (s : St E (many (A :: L) :: H) w) : St E (A :: many L :: H) w := by
  have s1 : St E (A :: (L ++ H)) w := many_iff.1 s
  have s2 : St E (L ++ (A :: H)) w := s1.perm List.perm_middle.symm
  exact (many_iff.2 s2).perm (List.Perm.swap _ _ _)
/-- a pool in another order, or less of it -/
theorem poolPerm {E : Env} {L M H : List HProp} {w : World} (hp : L.Perm M) (s : St E (many L :: H) w) : St E (many M :: H) w := many_iff.2 ((many_iff.1 s).perm (hp.append_right H))
theorem poolSub {E : Env} {L M H : List HProp} {w : World} (hs : M.Sublist L) (s : St E (many L :: H) w) : St E (many M :: H) w := by
  have s1 := many_iff.1 s
  rw [many_iff]
  clear s
  induction hs generalizing H with
  | slnil => exact s1
  | cons a hs ih => exact ih s1.drop
  | cons_cons a hs ih =>
    have s2 := ih (H := a :: H) (s1.perm List.perm_middle.symm)
    exact s2.perm List.perm_middle
theorem Sl.capL {E : Env} {H : List HProp} {sz m : Nat} {v : Value} {vs : List Value} (h : Sl E H sz v m vs) : ∀ w, St E H w → m ≤ capOf v := fun w s => (h w s).cap.1
theorem Sl.subX {E : Env} {H : List HProp} {α : Type} {gg : α → Value} {xs : List α} {m : Nat} {v : Value} (h : Sl E H 1 v m (xs.map gg)) (lo hi mx : Nat) (h1 : lo ≤ hi) (h2 : hi ≤ m) (h3 : hi ≤ mx) (h4 : mx ≤ capOf v) : Sl E H 1 (subSl v 1 lo hi mx) (hi - lo) (((xs.drop lo).take (hi - lo)).map gg) :=
  h.sub lo hi mx h1 h2 h3 h4 (by simp only [Nat.mul_one, List.map_take, List.map_drop])
section
variable {P : Program} {g : FuncId} {args : Array Value} {E : Env} {H : List HProp} {Q Q' : Value → List HProp → Prop}
theorem Does.post (h : Does P g args E H Q) (k : ∀ v H', Q v H' → ∃ H2, (∀ w, St E H' w → St E H2 w) ∧ Q' v H2) : Does P g args E H Q' := fun w s =>
  (h w s).mono fun _ _ ⟨v, H', e, q, s'⟩ => let ⟨H2, h2, q2⟩ := k v H' q; ⟨v, H2, e, q2, h2 _ s'⟩
theorem Does.pre (hs : ∀ w, St E H w → ∃ H2, St E H2 w ∧ Does P g args E H2 Q) : Does P g args E H Q := fun w s => let ⟨_, s2, h⟩ := hs w s; h w s2
end
/-- a method of a value -/
theorem Dtu.mkfF {P : Program} {n : Nat} {f : Fr} {E : Env} {H : List HProp} {d : Option Nat} {ty : TypeId} {pos : String} {aft : Array Edge} {g : Option (Nat × Bool)} {fn : Go.Fn} {cs : List Operand} {vs : List Value} (hc : evs f cs = vs) : Dtu P n f E H ⟨d, .makeFunc fn cs.toArray #[], ty, pos, aft, g⟩ (.func fn vs.toArray #[]) := fun w0 s w a' r => by
  subst hc
  simp [execOp, Instr.makeFunc, r.eval, evs]
end Go.Sx
end
section
/- My own logic of ownership over the model, part L: several owned things as one. -/
namespace Go.Sx
open Go
set_option linter.unusedVariables false
/-- owned things, with what is not said of them -/
def exO {α : Type} (p : α → Prop) (L : α → List HProp) : HProp := fun h => ∃ a, p a ∧ Sat (L a) h
theorem satAt {E : Env} : ∀ {H : List HProp} {h : Hp}, Sat H h → h.Le E.hp → ∀ A ∈ H, At A E := by
  intro H
  induction H with
  | nil => intro h _ _ A hm; cases hm
  | cons B H ih =>
    intro h hs le A hm
    obtain ⟨h1, h2, a, b, c, rfl⟩ := hs
    rcases List.mem_cons.1 hm with rfl | hm
    · exact ⟨h1, a, (Hp.le_union_left _ _).trans le⟩
    · exact ih b ((Hp.le_union_right c).trans le) A hm
section
variable {α : Type} {p : α → Prop} {L : α → List HProp} {E : Env} {H : List HProp} {w : World}
theorem exO_out (s : St E (exO p L :: H) w) : ∃ a, p a ∧ St E (L a ++ H) w := by
  obtain ⟨h, ⟨h1, h2, ⟨a, q, s1⟩, s2, d, rfl⟩, dE, l⟩ := s.has
  exact ⟨a, q, ⟨_, Sat.append.2 ⟨h1, h2, s1, s2, d, rfl⟩, dE, l⟩, s.keep, s.os, s.tape, s.output⟩
theorem exO_in (a : α) (q : p a) (s : St E (L a ++ H) w) : St E (exO p L :: H) w := by
  obtain ⟨h, s0, dE, l⟩ := s.has
  obtain ⟨h1, h2, s1, s2, d, rfl⟩ := Sat.append.1 s0
  exact ⟨⟨_, ⟨h1, h2, ⟨a, q, s1⟩, s2, d, rfl⟩, dE, l⟩, s.keep, s.os, s.tape, s.output⟩
theorem exO_at (h : At (exO p L) E) : ∃ a, p a ∧ ∀ A ∈ L a, At A E := by
  obtain ⟨x, ⟨a, q, s⟩, le⟩ := h
  exact ⟨a, q, satAt s le⟩
variable {P : Program} {g : FuncId} {args : Array Value} {Q : Value → List HProp → Prop}
theorem Does.exO (h : ∀ a, p a → Does P g args E (L a ++ H) Q) : Does P g args E (Sx.exO p L :: H) Q := fun w s =>
  let ⟨a, q, s2⟩ := exO_out s; h a q w s2
variable {n : Nat} {c : Code} {f : Fr} {K : Kont}
/-- what is in a thing that is owned is told -/
theorem Body.exO (i : Nat) (hi : H[i]? = some (Sx.exO p L)) (h : ∀ a, p a → Body P n c f E (L a ++ H.eraseIdx i) K) : Body P n c f E H K :=
  fun w a r d s => by
    obtain ⟨x, q, s1⟩ := exO_out (s.get hi)
    exact h x q w a r d s1
theorem Ops.exO {all : Array Oper} {l : List Oper} (i : Nat) (hi : H[i]? = some (Sx.exO p L)) (h : ∀ a, p a → Ops P n all l f E (L a ++ H.eraseIdx i) K) : Ops P n all l f E H K :=
  fun w a r d s => by
    obtain ⟨x, q, s1⟩ := exO_out (s.get hi)
    exact h x q w a r d s1
end
/-- one of a pool, to the front -/
theorem poolTake {E : Env} {A : HProp} {L M H : List HProp} {w : World} (s : St E (many (L ++ A :: M) :: H) w) : St E (A :: many (L ++ M) :: H) w :=
  poolOut (poolPerm List.perm_middle s)
theorem poolPut {E : Env} {A : HProp} {L M H : List HProp} {w : World} (s : St E (A :: many (L ++ M) :: H) w) : St E (many (L ++ A :: M) :: H) w :=
  poolPerm List.perm_middle.symm (poolCons s)
end Go.Sx
end
