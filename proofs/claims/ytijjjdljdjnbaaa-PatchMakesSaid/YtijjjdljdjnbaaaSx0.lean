/- The ground of the proofs of this seat: a separation logic over the model's worlds. What a step of code does is said of owned blocks of memory ('HProp') and of memory that stays as it is ('Env'); worlds themselves are not named. -/
import Derived.WalkKit
import Derived.WalkSpells
import Derived.WalkLawsBesides
import Derived.KernelRfl
import Derived.Orders
namespace Go.Sx
open Go

/-! ### parts of a heap -/
abbrev Hp := Nat → Option Obj

def Hp.emp : Hp := fun _ => none
def Hp.one (b : Nat) (o : Obj) : Hp := fun n => if n = b then some o else none
def Hp.union (a b : Hp) : Hp := fun n => match a n with
  | some o => some o
  | none => b n
def Hp.Le (a b : Hp) : Prop := ∀ n o, a n = some o → b n = some o
def Hp.Disj (a b : Hp) : Prop := ∀ n, a n = none ∨ b n = none
def hpOf (w : World) : Hp := fun n => w.heap[n]?

theorem Hp.Le.refl (a : Hp) : a.Le a := fun _ _ h => h
theorem Hp.Le.trans {a b c : Hp} (h : a.Le b) (k : b.Le c) : a.Le c := fun n o e => k n o (h n o e)
theorem Hp.Disj.symm {a b : Hp} (h : a.Disj b) : b.Disj a := fun n => (h n).symm
theorem Hp.Disj.le {a b a' b' : Hp} (h : a.Disj b) (ha : a'.Le a) (hb : b'.Le b) : a'.Disj b' := fun n => by
  rcases h n with e | e
  · left
    cases h' : a' n with
    | none => rfl
    | some o => rw [ha n o h'] at e; cases e
  · right
    cases h' : b' n with
    | none => rfl
    | some o => rw [hb n o h'] at e; cases e
theorem Hp.emp_le (a : Hp) : Hp.emp.Le a := fun n o h => by simp [Hp.emp] at h
theorem Hp.emp_disj (a : Hp) : Hp.emp.Disj a := fun _ => .inl rfl
theorem Hp.union_emp (a : Hp) : a.union Hp.emp = a := by
  funext n; unfold Hp.union Hp.emp; cases a n <;> rfl
theorem Hp.emp_union (a : Hp) : Hp.emp.union a = a := rfl
theorem Hp.le_union_left (a b : Hp) : a.Le (a.union b) := fun n o h => by simp [Hp.union, h]
theorem Hp.le_union_right {a b : Hp} (h : a.Disj b) : b.Le (a.union b) := fun n o e => by
  rcases h n with h | h
  · simp [Hp.union, h, e]
  · rw [h] at e; cases e
theorem Hp.union_le {a b c : Hp} (ha : a.Le c) (hb : b.Le c) : (a.union b).Le c := fun n o e => by
  unfold Hp.union at e
  cases h : a n with
  | none => rw [h] at e; exact hb n o e
  | some x => rw [h] at e; exact ha n o (by rw [h]; exact e)
theorem Hp.union_assoc (a b c : Hp) : (a.union b).union c = a.union (b.union c) := by
  funext n; simp only [Hp.union]; cases a n <;> rfl
theorem Hp.union_comm {a b : Hp} (h : a.Disj b) : a.union b = b.union a := by
  funext n; simp only [Hp.union]
  rcases h n with h | h <;> rw [h] <;> cases a n <;> cases b n <;> simp_all
theorem Hp.disj_union_left {a b c : Hp} : (a.union b).Disj c ↔ a.Disj c ∧ b.Disj c ∨ (a.union b).Disj c := ⟨fun h => .inr h, fun h => by
  rcases h with ⟨h1, h2⟩ | h
  · intro n
    rcases h1 n with e | e
    · rcases h2 n with e' | e'
      · left; simp [Hp.union, e, e']
      · exact .inr e'
    · exact .inr e
  · exact h⟩
theorem Hp.Disj.union_left {a b c : Hp} (h1 : a.Disj c) (h2 : b.Disj c) : (a.union b).Disj c := Hp.disj_union_left.2 (.inl ⟨h1, h2⟩)
theorem Hp.Disj.union_right {a b c : Hp} (h1 : a.Disj b) (h2 : a.Disj c) : a.Disj (b.union c) := (Hp.Disj.union_left h1.symm h2.symm).symm
theorem Hp.Disj.of_union_left {a b c : Hp} (h : (a.union b).Disj c) : a.Disj c := h.le (Hp.le_union_left a b) (Hp.Le.refl c)
theorem Hp.Disj.of_union_right {a b c : Hp} (hab : a.Disj b) (h : (a.union b).Disj c) : b.Disj c := h.le (Hp.le_union_right hab) (Hp.Le.refl c)
theorem Hp.one_le {b : Nat} {o : Obj} {h : Hp} (e : h b = some o) : (Hp.one b o).Le h := fun n x hx => by
  unfold Hp.one at hx
  split at hx
  · rename_i hn; subst hn; rw [← hx]; exact e
  · cases hx
theorem Hp.one_disj {b : Nat} {o : Obj} {h : Hp} (e : h b = none) : (Hp.one b o).Disj h := fun n => by
  by_cases hn : n = b
  · subst hn; exact .inr e
  · left; simp [Hp.one, hn]

/-! ### assertions -/
def HProp := Hp → Prop

/-- a heap that parts into the given assertions -/
def Sat : List HProp → Hp → Prop
  | [], h => h = Hp.emp
  | A :: H, h => ∃ h1 h2, A h1 ∧ Sat H h2 ∧ h1.Disj h2 ∧ h = h1.union h2

theorem Sat.swap {A B : HProp} {H : List HProp} {h : Hp} (s : Sat (A :: B :: H) h) : Sat (B :: A :: H) h := by
  obtain ⟨h1, h2, a, ⟨h3, h4, b, s, d2, rfl⟩, d1, rfl⟩ := s
  have d13 : h1.Disj h3 := d1.le (Hp.Le.refl _) (Hp.le_union_left _ _)
  have d14 : h1.Disj h4 := d1.le (Hp.Le.refl _) (Hp.le_union_right d2)
  refine ⟨h3, h1.union h4, b, ⟨h1, h4, a, s, d14, rfl⟩, Hp.Disj.union_right d13.symm d2, ?_⟩
  rw [← Hp.union_assoc, Hp.union_comm d13, Hp.union_assoc]
theorem Sat.perm {H H' : List HProp} (p : H.Perm H') : ∀ {h : Hp}, Sat H h → Sat H' h := by
  induction p with
  | nil => exact fun h => h
  | cons x _ ih => rintro h ⟨h1, h2, a, s, d, rfl⟩; exact ⟨h1, h2, a, ih s, d, rfl⟩
  | swap x y l => exact fun s => s.swap
  | trans _ _ ih1 ih2 => exact fun s => ih2 (ih1 s)
theorem Sat.append {H H' : List HProp} : ∀ {h : Hp}, Sat (H ++ H') h ↔ ∃ h1 h2, Sat H h1 ∧ Sat H' h2 ∧ h1.Disj h2 ∧ h = h1.union h2 := by
  induction H with
  | nil => exact fun {h} => ⟨fun s => ⟨Hp.emp, h, rfl, s, Hp.emp_disj _, rfl⟩, fun ⟨h1, h2, e, s, _, eq⟩ => by cases e; rw [eq]; exact s⟩
  | cons A H ih =>
    intro h
    constructor
    · rintro ⟨h1, h2, a, s, d, rfl⟩
      obtain ⟨h3, h4, s3, s4, d2, rfl⟩ := ih.1 s
      have d13 : h1.Disj h3 := d.le (Hp.Le.refl _) (Hp.le_union_left _ _)
      have d14 : h1.Disj h4 := d.le (Hp.Le.refl _) (Hp.le_union_right d2)
      exact ⟨h1.union h3, h4, ⟨h1, h3, a, s3, d13, rfl⟩, s4, Hp.Disj.union_left d14 d2, (Hp.union_assoc _ _ _).symm⟩
    · rintro ⟨h12, h4, ⟨h1, h3, a, s3, d13, rfl⟩, s4, d, rfl⟩
      have d14 := Hp.Disj.of_union_left d
      have d34 := Hp.Disj.of_union_right d13 d
      exact ⟨h1, h3.union h4, a, ih.2 ⟨h3, h4, s3, s4, d34, rfl⟩, Hp.Disj.union_right d13 d14, Hp.union_assoc _ _ _⟩

/-! ### memory that stays, and states -/
structure Env where
  hp : Hp
  os : Os
  tape : Nat → Question → Nat
  output : Array (Nat × ByteArray)

structure Env.Le (E E' : Env) : Prop where
  hp : E.hp.Le E'.hp
  os : E'.os = E.os
  tape : E'.tape = E.tape
  output : E'.output = E.output
theorem Env.Le.refl (E : Env) : E.Le E := ⟨Hp.Le.refl _, rfl, rfl, rfl⟩
theorem Env.Le.trans {a b c : Env} (h : a.Le b) (k : b.Le c) : a.Le c := ⟨h.hp.trans k.hp, k.os.trans h.os, k.tape.trans h.tape, k.output.trans h.output⟩

def envOf (w : World) : Env := ⟨hpOf w, w.os, w.tape, w.output⟩

/-- the world has what stays, and apart from it what is owned -/
structure St (E : Env) (H : List HProp) (w : World) : Prop where
  has : ∃ h, Sat H h ∧ E.hp.Disj h ∧ h.Le (hpOf w)
  keep : E.hp.Le (hpOf w)
  os : w.os = E.os
  tape : w.tape = E.tape
  output : w.output = E.output

/-- an assertion read in memory that stays -/
def At (A : HProp) (E : Env) : Prop := ∃ h, A h ∧ h.Le E.hp
theorem At.mono {A : HProp} {E E' : Env} (h : At A E) (le : E.Le E') : At A E' := let ⟨x, a, l⟩ := h; ⟨x, a, l.trans le.hp⟩

/-- nothing that is there is turned -/
structure Ext (w w' : World) : Prop where
  heap : (hpOf w).Le (hpOf w')
  os : w'.os = w.os
  tape : w'.tape = w.tape
  output : w'.output = w.output
theorem Ext.refl (w : World) : Ext w w := ⟨Hp.Le.refl _, rfl, rfl, rfl⟩
theorem Ext.trans {a b c : World} (h : Ext a b) (k : Ext b c) : Ext a c := ⟨h.heap.trans k.heap, k.os.trans h.os, k.tape.trans h.tape, k.output.trans h.output⟩

theorem St.ext {E : Env} {H : List HProp} {w w' : World} (s : St E H w) (x : Ext w w') : St E H w' :=
  ⟨let ⟨h, a, d, l⟩ := s.has; ⟨h, a, d, l.trans x.heap⟩, s.keep.trans x.heap, x.os.trans s.os, x.tape.trans s.tape, x.output.trans s.output⟩
theorem St.perm {E : Env} {H H' : List HProp} {w : World} (p : H.Perm H') (s : St E H w) : St E H' w :=
  ⟨let ⟨h, a, d, l⟩ := s.has; ⟨h, a.perm p, d, l⟩, s.keep, s.os, s.tape, s.output⟩
/-- an assertion may be let go -/
theorem St.drop {E : Env} {A : HProp} {H : List HProp} {w : World} (s : St E (A :: H) w) : St E H w := by
  obtain ⟨h, ⟨h1, h2, a, s2, d, rfl⟩, dE, l⟩ := s.has
  exact ⟨⟨h2, s2, dE.le (Hp.Le.refl _) (Hp.le_union_right d), (Hp.le_union_right d).trans l⟩, s.keep, s.os, s.tape, s.output⟩
theorem St.dropAll {E : Env} {A H : List HProp} {w : World} (s : St E (A ++ H) w) : St E H w := by
  induction A with
  | nil => exact s
  | cons x A ih => exact ih s.drop
theorem St.drop_tail {E : Env} {A H : List HProp} {w : World} (s : St E (A ++ H) w) : St E A w := (s.perm List.perm_append_comm).dropAll
theorem St.all {w : World} : St (envOf w) [] w := ⟨⟨Hp.emp, rfl, (Hp.emp_disj _).symm, Hp.emp_le _⟩, Hp.Le.refl _, rfl, rfl, rfl⟩
theorem St.at {E : Env} {H : List HProp} {w : World} (s : St E H w) : ∀ A ∈ H, At A (envOf w) := by
  obtain ⟨h, a, dd, l⟩ := s.has
  clear s dd
  induction H generalizing h with
  | nil => intro A hA; cases hA
  | cons B H ih =>
    obtain ⟨h1, h2, b, s2, d, rfl⟩ := a
    intro A hA
    cases hA with
    | head => exact ⟨h1, b, (Hp.le_union_left _ _).trans l⟩
    | tail _ hm => exact ih h2 s2 ((Hp.le_union_right d).trans l) A hm
theorem St.le {E : Env} {H : List HProp} {w : World} (s : St E H w) : E.Le (envOf w) := ⟨s.keep, s.os, s.tape, s.output⟩

/-- THE FRAME: what a callee owns apart from what it does not touch -/
theorem St.frame {E : Env} {Hc Hf : List HProp} {w : World} (s : St E (Hc ++ Hf) w) :
    ∃ E', E.Le E' ∧ (∀ A ∈ Hf, At A E') ∧ St E' Hc w ∧ ∀ H' w', St E' H' w' → St E (H' ++ Hf) w' := by
  obtain ⟨h, a, dE, l⟩ := s.has
  obtain ⟨h1, h2, s1, s2, d, rfl⟩ := Sat.append.1 a
  have dE1 : E.hp.Disj h1 := dE.le (Hp.Le.refl _) (Hp.le_union_left _ _)
  have dE2 : E.hp.Disj h2 := dE.le (Hp.Le.refl _) (Hp.le_union_right d)
  refine ⟨⟨E.hp.union h2, E.os, E.tape, E.output⟩, ⟨Hp.le_union_left _ _, rfl, rfl, rfl⟩, ?_, ⟨⟨h1, s1, Hp.Disj.union_left dE1 d.symm, (Hp.le_union_left _ _).trans l⟩,
    Hp.union_le s.keep ((Hp.le_union_right d).trans l), s.os, s.tape, s.output⟩, ?_⟩
  · intro A hA
    have : ∀ (H : List HProp) (h : Hp), Sat H h → A ∈ H → ∃ x, A x ∧ x.Le h := by
      intro H
      induction H with
      | nil => intro h _ hm; cases hm
      | cons B H ih =>
        rintro h ⟨h1, h2, b, s2, d, rfl⟩ hm
        cases hm with
        | head => exact ⟨h1, b, Hp.le_union_left _ _⟩
        | tail _ hm => obtain ⟨x, ax, lx⟩ := ih h2 s2 hm; exact ⟨x, ax, lx.trans (Hp.le_union_right d)⟩
    obtain ⟨x, ax, lx⟩ := this Hf h2 s2 hA
    exact ⟨x, ax, lx.trans (Hp.le_union_right dE2)⟩
  · intro H' w' s'
    obtain ⟨g, sg, dg, lg⟩ := s'.has
    have d1 : E.hp.Disj g := dg.of_union_left
    have d2 : h2.Disj g := Hp.Disj.of_union_right dE2 dg
    have lk : E.hp.Le (hpOf w') := (Hp.le_union_left _ _).trans s'.keep
    have lk2 : h2.Le (hpOf w') := (Hp.le_union_right dE2).trans s'.keep
    exact ⟨⟨g.union h2, Sat.append.2 ⟨g, h2, sg, s2, d2.symm, rfl⟩, Hp.Disj.union_right d1 dE2, Hp.union_le lg lk2⟩, lk, s'.os, s'.tape, s'.output⟩

/-- what a call that owns nothing adds -/
theorem St.add {E : Env} {H A : List HProp} {w w' : World} (s : St E H w) (s' : St (envOf w) A w') : St E (A ++ H) w' ∧ Ext w w' := by
  obtain ⟨h, a, dE, l⟩ := s.has
  obtain ⟨g, sg, dg, lg⟩ := s'.has
  exact ⟨⟨⟨g.union h, Sat.append.2 ⟨g, h, sg, a, (dg.le l (Hp.Le.refl _)).symm, rfl⟩, Hp.Disj.union_right (dg.le s.keep (Hp.Le.refl _)) dE, Hp.union_le lg (l.trans s'.keep)⟩,
    s.keep.trans s'.keep, s'.os.trans s.os, s'.tape.trans s.tape, s'.output.trans s.output⟩, ⟨s'.keep, s'.os, s'.tape, s'.output⟩⟩

/-! ### owned blocks -/
/-- the block b holds just these cells -/
def own (b : Nat) (vs : List Value) (t : TypeId) : HProp := fun h => h = Hp.one b (.cells vs.toArray t (0, 0))

theorem St.block {E : Env} {b : Nat} {vs : List Value} {t : TypeId} {H : List HProp} {w : World} (s : St E (own b vs t :: H) w) : w.heap[b]? = some (.cells vs.toArray t (0, 0)) := by
  obtain ⟨h, ⟨h1, h2, rfl, _, _, rfl⟩, _, l⟩ := s.has
  exact ((Hp.le_union_left _ _).trans l) b _ (by simp [Hp.one])

theorem hpOf_push (w : World) (o : Obj) : hpOf { w with heap := w.heap.push o } = fun n => if n = w.heap.size then some o else hpOf w n := by
  funext n
  simp only [hpOf, Array.getElem?_push]

theorem St.alloc {E : Env} {H : List HProp} {w : World} (s : St E H w) (vs : List Value) (t : TypeId) :
    St E (own w.heap.size vs t :: H) { w with heap := w.heap.push (.cells vs.toArray t (0, 0)) } ∧ Ext w { w with heap := w.heap.push (.cells vs.toArray t (0, 0)) } := by
  have hn : hpOf w w.heap.size = none := by simp [hpOf]
  have hle : (hpOf w).Le (hpOf { w with heap := w.heap.push (.cells vs.toArray t (0, 0)) }) := by
    intro n o h
    rw [hpOf_push]
    by_cases hn' : n = w.heap.size
    · subst hn'; rw [hn] at h; cases h
    · simp [hn', h]
  obtain ⟨h, a, dE, l⟩ := s.has
  have dn : ∀ x : Hp, x.Le (hpOf w) → (Hp.one w.heap.size (.cells vs.toArray t (0, 0))).Disj x := fun x lx => Hp.one_disj (by
    cases hx : x w.heap.size with
    | none => rfl
    | some o => have := lx _ _ hx; rw [hn] at this; cases this)
  refine ⟨⟨⟨(Hp.one w.heap.size (.cells vs.toArray t (0, 0))).union h, ⟨_, h, rfl, a, dn h l, rfl⟩, Hp.Disj.union_right (dn _ s.keep).symm dE, Hp.union_le (Hp.one_le (by rw [hpOf_push]; simp)) (l.trans hle)⟩,
    s.keep.trans hle, s.os, s.tape, s.output⟩, ⟨hle, rfl, rfl, rfl⟩⟩

/-- an owned block is written anew -/
theorem St.write {E : Env} {b : Nat} {vs vs' : List Value} {t : TypeId} {H : List HProp} {w w' : World} (s : St E (own b vs t :: H) w)
    (hb : w'.heap[b]? = some (.cells vs'.toArray t (0, 0))) (ho : ∀ n, n ≠ b → w'.heap[n]? = w.heap[n]?) (hos : w'.os = w.os) (htape : w'.tape = w.tape) (hout : w'.output = w.output) :
    St E (own b vs' t :: H) w' := by
  obtain ⟨h, ⟨h1, h2, rfl, s2, d, rfl⟩, dE, l⟩ := s.has
  have h2b : h2 b = none := by
    rcases d b with e | e
    · simp [Hp.one] at e
    · exact e
  have hEb : E.hp b = none := by
    rcases dE b with e | e
    · exact e
    · simp [Hp.union, Hp.one] at e
  have keep : ∀ x : Hp, x b = none → x.Le (hpOf w) → x.Le (hpOf w') := fun x xb lx n o e => by
    by_cases hn : n = b
    · subst hn; rw [xb] at e; cases e
    · show w'.heap[n]? = _; rw [ho n hn]; exact lx n o e
  exact ⟨⟨(Hp.one b (.cells vs'.toArray t (0, 0))).union h2, ⟨_, h2, rfl, s2, Hp.one_disj h2b, rfl⟩,
    Hp.Disj.union_right (Hp.one_disj hEb).symm (dE.le (Hp.Le.refl _) (Hp.le_union_right d)), Hp.union_le (Hp.one_le hb) (keep h2 h2b ((Hp.le_union_right d).trans l))⟩,
    keep _ hEb s.keep, hos.trans s.os, htape.trans s.tape, hout.trans s.output⟩

/-! ### taking some out of a list -/
def pick : List Nat → List HProp → Option (List HProp × List HProp)
  | [], H => some ([], H)
  | i :: is, H => match H[i]? with
    | some A => (pick is (H.eraseIdx i)).map fun (c, f) => (A :: c, f)
    | none => none
theorem getElem_perm : ∀ {α : Type} {l : List α} {i : Nat} {x : α}, l[i]? = some x → (x :: l.eraseIdx i).Perm l
  | _, a :: l, 0, x, h => by simp at h; subst h; simp
  | _, a :: l, i + 1, x, h => by
    simp only [List.getElem?_cons_succ] at h
    simp only [List.eraseIdx_cons_succ]
    exact (List.Perm.swap a x _).trans ((getElem_perm h).cons a)
  | _, [], i, x, h => by simp at h
theorem pick_perm : ∀ {is : List Nat} {H c f : List HProp}, pick is H = some (c, f) → H.Perm (c ++ f)
  | [], H, c, f, h => by simp only [pick, Option.some.injEq, Prod.mk.injEq] at h; obtain ⟨rfl, rfl⟩ := h; exact List.Perm.refl _
  | i :: is, H, c, f, h => by
    simp only [pick] at h
    split at h
    · rename_i A hA
      obtain ⟨⟨c', f'⟩, hp, he⟩ := Option.map_eq_some_iff.1 h
      simp only [Prod.mk.injEq] at he
      obtain ⟨rfl, rfl⟩ := he
      exact (getElem_perm hA).symm.trans ((pick_perm hp).cons A)
    · cases h
theorem eraseIdx_set_same : ∀ (H : List HProp) (i : Nat) (A : HProp), (H.set i A).eraseIdx i = H.eraseIdx i
  | [], _, _ => rfl
  | _ :: _, 0, _ => rfl
  | _ :: H, i + 1, A => by simp only [List.set_cons_succ, List.eraseIdx_cons_succ, eraseIdx_set_same H i A]
theorem set_perm {H : List HProp} {i : Nat} {A A' : HProp} (h : H[i]? = some A) : (A' :: H.eraseIdx i).Perm (H.set i A') := by
  obtain ⟨hi, _⟩ := List.getElem?_eq_some_iff.1 h
  rw [← eraseIdx_set_same H i A']
  exact getElem_perm (by simp [hi])
theorem get_perm {H : List HProp} {i : Nat} {A : HProp} (h : H[i]? = some A) : H.Perm (A :: H.eraseIdx i) := (getElem_perm h).symm
theorem St.get {E : Env} {H : List HProp} {w : World} {i : Nat} {A : HProp} (s : St E H w) (h : H[i]? = some A) : St E (A :: H.eraseIdx i) w := s.perm (get_perm h)
theorem St.put {E : Env} {H : List HProp} {w : World} {i : Nat} {A A' : HProp} (h : H[i]? = some A) (s : St E (A' :: H.eraseIdx i) w) : St E (H.set i A') w := s.perm (set_perm h)

end Go.Sx
