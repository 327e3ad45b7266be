/- Frames, judgements on code, and the rules by which code is gone through. -/
import Derived.Test.YtijjjdljdjnbaaaSx0
import Derived.Scope
namespace Go.Sx
open Go

/-! ### frames -/
abbrev Fr := Nat → Value
def upd (f : Fr) (i : Nat) (v : Value) : Fr := fun j => bif Nat.beq j i then v else f j
def fr0 : Fr := fun _ => undef
/-- the slots of W hold something -/
def mix (W : List Nat) (g f : Fr) : Fr := fun j => bif W.any (Nat.beq j) then g j else f j

def Rel (n : Nat) (f : Fr) (tmps : Array Value) : Prop := tmps.size = n ∧ ∀ i, tmps.getD i undef = f i

theorem Rel.upd {n : Nat} {f : Fr} {tmps : Array Value} (r : Rel n f tmps) {d : Nat} (hd : d < n) (v : Value) : Rel n (upd f d v) (tmps.setIfInBounds d v) := by
  refine ⟨by simp [r.1], fun i => ?_⟩
  unfold Sx.upd
  cases h : Nat.beq i d with
  | true =>
    have := Nat.eq_of_beq_eq_true h; subst this
    simp [r.1, hd]
  | false =>
    have hne : d ≠ i := fun e => by subst e; simp at h
    rw [cond_false, ← r.2 i]
    simp [Array.getElem?_setIfInBounds_ne hne]
theorem Rel.getElem? {n : Nat} {f : Fr} {tmps : Array Value} (r : Rel n f tmps) {d : Nat} (hd : d < n) : tmps[d]? = some (f d) := by
  rw [← r.2 d]
  have : d < tmps.size := by rw [r.1]; exact hd
  simp [this]
theorem Rel.congr {n : Nat} {f g : Fr} {tmps : Array Value} (r : Rel n f tmps) (h : f = g) : Rel n g tmps := h ▸ r

def ev (f : Fr) : Operand → Value
  | .tmp t => f t
  | .const v => v
  | .global g => .pointer (some ⟨g, 0, none⟩)
  | .func g => .func (.func g) #[] #[]
theorem Rel.eval {n : Nat} {f : Fr} {a : Act} (r : Rel n f a.tmps) : a.eval = ev f := by
  funext x; cases x with
  | tmp t => exact r.2 t
  | _ => rfl

def updO (f : Fr) : Option Nat → Value → Fr
  | some d, v => upd f d v
  | none, _ => f
def okD (n : Nat) : Option Nat → Bool
  | some d => Nat.blt d n
  | none => true
theorem Rel.put {n : Nat} {f : Fr} {a : Act} (r : Rel n f a.tmps) {d : Option Nat} (hd : okD n d = true) (v : Value) : Rel n (updO f d v) (a.put d v).tmps := by
  cases d with
  | none => exact r
  | some d => exact r.upd (by simpa [okD, Nat.blt_eq] using hd) v
theorem put_defers (a : Act) (d : Option Nat) (v : Value) : (a.put d v).defers = a.defers := by cases d <;> rfl

/-! ### exits, posts -/
inductive Ex where
  | norm
  | exit (id : Nat)
  | ret
abbrev Kont := Ex → Fr → List HProp → Prop

def Ends (n : Nat) (E : Env) (K : Fr → List HProp → Prop) (a : Act) (w : World) : Prop := a.defers = [] ∧ ∃ f H, Rel n f a.tmps ∧ K f H ∧ St E H w
def Post (n : Nat) (E : Env) (K : Kont) : Exit → Act → World → Prop
  | .normal, a, w => Ends n E (K .norm) a w
  | .exit id, a, w => Ends n E (K (.exit id)) a w
  | .ret, a, w => Ends n E (K .ret) a w
  | _, _, _ => False
theorem Ends.mono {n : Nat} {E : Env} {K K' : Fr → List HProp → Prop} {a : Act} {w : World} (h : Ends n E K a w) (k : ∀ f H, K f H → K' f H) : Ends n E K' a w :=
  let ⟨d, f, H, r, kk, s⟩ := h; ⟨d, f, H, r, k f H kk, s⟩

/-- code, from a frame and what is owned -/
def Body (P : Program) (n : Nat) (c : Code) (f : Fr) (E : Env) (H : List HProp) (K : Kont) : Prop :=
  ∀ w a, Rel n f a.tmps → a.defers = [] → St E H w → c.wp P (Post n E K) a w

section
variable {P : Program} {n : Nat} {f : Fr} {E : Env} {H : List HProp} {K : Kont}

theorem Body.mono {c : Code} {K' : Kont} (h : Body P n c f E H K) (k : ∀ e f H, K e f H → K' e f H) : Body P n c f E H K' := fun w a r d s =>
  wp_mono (h w a r d s) fun e a w q => by cases e <;> first | exact Ends.mono q (k _) | exact q

theorem Body.skip (h : K .norm f H) : Body P n .skip f E H K := fun _ _ r d s => wp_skip ⟨d, f, H, r, h, s⟩
theorem Body.label {l : Nat} (h : K .norm f H) : Body P n (.label l) f E H K := fun _ _ r d s => wp_label ⟨d, f, H, r, h, s⟩
theorem Body.ret (h : K .ret f H) : Body P n .ret f E H K := fun _ _ r d s => wp_ret ⟨d, f, H, r, h, s⟩
theorem Body.exit {id : Nat} (h : K (.exit id) f H) : Body P n (.exit id) f E H K := fun _ _ r d s => wp_exit ⟨d, f, H, r, h, s⟩

def Then (P : Program) (n : Nat) (y : Code) (E : Env) (K : Kont) : Kont
  | .norm, f, H => Body P n y f E H K
  | e, f, H => K e f H
theorem Body.seq {x y : Code} (h : Body P n x f E H (Then P n y E K)) : Body P n (.seq x y) f E H K := fun w a r d s =>
  wp_seq (wp_mono (h w a r d s) fun e a w q => by
    cases e with
    | normal => obtain ⟨d, f, H, r, k, s⟩ := q; exact k w a r d s
    | exit id => exact q
    | ret => exact q
    | goto l => exact q
    | panic c => exact q
    | outgrown => exact q)
theorem Then.next {y : Code} (h : Body P n y f E H K) : Then P n y E K .norm f H := h
theorem Then.exit {y : Code} {id : Nat} (h : K (.exit id) f H) : Then P n y E K (.exit id) f H := h
theorem Then.ret {y : Code} (h : K .ret f H) : Then P n y E K .ret f H := h

def Blk (id : Nat) (K : Kont) : Kont
  | .exit j, f, H => if j = id then K .norm f H else K (.exit j) f H
  | e, f, H => K e f H
theorem Body.block {id : Nat} {c : Code} (h : Body P n c f E H (Blk id K)) : Body P n (.block id c) f E H K := fun w a r d s =>
  wp_block (wp_mono (h w a r d s) fun e a w q => by
    cases e with
    | exit j =>
      obtain ⟨d, f, H, r, k, s⟩ := q
      simp only [Blk] at k
      simp only [Exit.inBlock]
      split
      · rename_i hj; rw [if_pos hj] at k; exact ⟨d, f, H, r, k, s⟩
      · rename_i hj; rw [if_neg hj] at k; exact ⟨d, f, H, r, k, s⟩
    | normal => exact q
    | ret => exact q
    | goto l => exact q
    | panic c => exact q
    | outgrown => exact q)
theorem Blk.norm {id : Nat} (h : K .norm f H) : Blk id K .norm f H := h
theorem Blk.ret {id : Nat} (h : K .ret f H) : Blk id K .ret f H := h
theorem Blk.here {id : Nat} (h : K .norm f H) : Blk id K (.exit id) f H := by simp only [Blk, if_pos]; exact h
theorem Blk.past {id j : Nat} (hj : Nat.beq j id = false) (h : K (.exit j) f H) : Blk id K (.exit j) f H := by
  simp only [Blk]; rw [if_neg (fun e => by subst e; simp at hj)]; exact h

theorem Body.scope {c : Code} (h : Body P n c f E H K) : Body P n (.scope c) f E H K := fun w a r d s =>
  wp_scope_straight (wp_mono (h w a r d s) fun e a w q => by cases e <;> exact q)

theorem Body.cond {c : Operand} {x y : Code} {t : Bool} (hc : ev f c = .bool t) (h1 : t = true → Body P n x f E H K) (h2 : t = false → Body P n y f E H K) : Body P n (.cond c x y) f E H K :=
  fun w a r d s => wp_cond_split (t := t) (by rw [r.eval]; exact hc) (fun e => h1 e w a r d s) (fun e => h2 e w a r d s)
theorem Body.condT {c : Operand} {x y : Code} (hc : ev f c = .bool true) (h1 : Body P n x f E H K) : Body P n (.cond c x y) f E H K := Body.cond hc (fun _ => h1) (fun e => by cases e)
theorem Body.condF {c : Operand} {x y : Code} (hc : ev f c = .bool false) (h1 : Body P n y f E H K) : Body P n (.cond c x y) f E H K := Body.cond hc (fun e => by cases e) (fun _ => h1)
/-- a test of a proposition -/
theorem Body.condP {c : Operand} {x y : Code} {p : Prop} {_ : Decidable p} (hc : ev f c = .bool (decide p)) (h1 : p → Body P n x f E H K) (h2 : ¬ p → Body P n y f E H K) : Body P n (.cond c x y) f E H K :=
  Body.cond hc (fun e => h1 (of_decide_eq_true e)) (fun e => h2 (of_decide_eq_false e))

/-- a loop: what holds at its head, of some ghost; a number that falls -/
def Round {γ : Type} (I : γ → Fr → List HProp → Prop) (μ : γ → Nat) (g : γ) (K : Kont) : Kont
  | .norm, f, H => ∃ g', I g' f H ∧ μ g' < μ g
  | e, f, H => K e f H
theorem Body.loop {c : Code} {γ : Type} (I : γ → Fr → List HProp → Prop) (μ : γ → Nat) (g0 : γ) (h0 : I g0 f H)
    (round : ∀ g f H, I g f H → Body P n c f E H (Round I μ g K)) : Body P n (.loop c) f E H K := fun w a r d s => by
  have key : ∀ m, ∀ g f H w a, μ g = m → I g f H → Rel n f a.tmps → a.defers = [] → St E H w → ∀ (b : Frame) (k : List Item) (cs : List Frame),
      ∃ e a' w', Post n E K e a' w' ∧ Arrives P (lone (b.at a (.code c :: .inLoop c :: k)) cs w) b k cs e a' w' := by
    intro m
    induction m using Nat.strongRecOn with
    | _ m ih =>
      intro g f H w a hm hI r d s b k cs
      obtain ⟨e, a₁, w₁, hq, harr⟩ := round g f H hI w a r d s b (.inLoop c :: k) cs
      cases e with
      | normal =>
        obtain ⟨d', f', H', r', ⟨g', hI', hlt⟩, s'⟩ := hq
        obtain ⟨e₂, a₂, w₂, hq₂, harr₂⟩ := ih (μ g') (hm ▸ hlt) g' f' H' w₁ a₁ rfl hI' r' d' s' b k cs
        exact ⟨e₂, a₂, w₂, hq₂, .of_steps (Steps.trans harr (.one step_inLoop)) harr₂⟩
      | exit id => exact ⟨.exit id, a₁, w₁, hq, .pass (x := .inLoop c) rfl (fun _ _ => .inl (by simp)) harr⟩
      | ret => exact ⟨.ret, a₁, w₁, hq, .pass (x := .inLoop c) rfl (fun _ _ => .inl (by simp)) harr⟩
      | goto l => exact hq.elim
      | panic ch => exact hq.elim
      | outgrown => exact hq.elim
  intro b k cs
  obtain ⟨e, a', w', hq, harr⟩ := key _ g0 f H w a rfl h0 r d s b k cs
  exact ⟨e, a', w', hq, .of_steps (.one step_loop) harr⟩
theorem Round.go {γ : Type} {I : γ → Fr → List HProp → Prop} {μ : γ → Nat} {g : γ} (g' : γ) (h : I g' f H) (hm : μ g' < μ g) : Round I μ g K .norm f H := ⟨g', h, hm⟩
theorem Round.exit {γ : Type} {I : γ → Fr → List HProp → Prop} {μ : γ → Nat} {g : γ} {id : Nat} (h : K (.exit id) f H) : Round I μ g K (.exit id) f H := h
theorem Round.ret {γ : Type} {I : γ → Fr → List HProp → Prop} {μ : γ → Nat} {g : γ} (h : K .ret f H) : Round I μ g K .ret f H := h

/-- a change of what is owned, in words -/
theorem Body.conseq {c : Code} {H' : List HProp} (hs : ∀ w, St E H w → St E H' w) (h : Body P n c f E H' K) : Body P n c f E H K := fun w a r d s => h w a r d (hs w s)
theorem Body.exists {c : Code} {α : Type} {A : α → HProp} (h : ∀ x, Body P n c f E (A x :: H) K) : Body P n c f E ((fun h => ∃ x, A x h) :: H) K := fun w a r d s => by
  obtain ⟨g, ⟨h1, h2, ⟨x, ax⟩, s2, dd, rfl⟩, dE, l⟩ := s.has
  exact h x w a r d ⟨⟨_, ⟨h1, h2, ax, s2, dd, rfl⟩, dE, l⟩, s.keep, s.os, s.tape, s.output⟩
end

/-! ### calls -/
def Does (P : Program) (g : FuncId) (args : Array Value) (E : Env) (H : List HProp) (Q : Value → List HProp → Prop) : Prop :=
  ∀ w, St E H w → Calls P g args w fun e w' => ∃ v H', e = .returned v ∧ Q v H' ∧ St E H' w'
theorem Does.mono {P : Program} {g : FuncId} {args : Array Value} {E : Env} {H : List HProp} {Q Q' : Value → List HProp → Prop} (h : Does P g args E H Q) (k : ∀ v H', Q v H' → Q' v H') : Does P g args E H Q' :=
  fun w s => (h w s).mono fun _ _ ⟨v, H', e, q, s'⟩ => ⟨v, H', e, k v H' q, s'⟩

/-- what is read out of memory -/
def Loads (P : Program) (T : TypeId) (addr : Value) (v : Value) (E : Env) (H : List HProp) : Prop :=
  ∃ a, addr = .pointer (some a) ∧ ∀ w, St E H w → (loadVar T a).run P w = .ok v w

def ResK (P : Program) (f : Fr) (E : Env) (H : List HProp) : List ResultVar → (List Value → Prop) → Prop
  | [], K => K []
  | .tmp t :: rs, K => ResK P f E H rs fun vs => K (f t :: vs)
  | .cell a T :: rs, K => ∃ v, Loads P T (f a) v E H ∧ ResK P f E H rs fun vs => K (v :: vs)
def mkRes : List Value → Value
  | [v] => v
  | vs => .tuple vs.toArray

def resSem (tmps : Array Value) : ResultVar → Sem Value
  | .tmp t => pure (tmps.getD t undef)
  | .cell a t => do loadVar t (← asAddr (tmps.getD a undef))

theorem run_mapM_res {P : Program} {n : Nat} {f : Fr} {E : Env} {H : List HProp} {tmps : Array Value} {w : World} (r : Rel n f tmps) (s : St E H w) :
    ∀ (rs : List ResultVar) (K : List Value → Prop), ResK P f E H rs K → ∃ vs : List Value, (rs.mapM (resSem tmps)).run P w = .ok vs w ∧ K vs
  | [], K, h => ⟨[], rfl, h⟩
  | .tmp t :: rs, K, h => by
    obtain ⟨vs, h1, h2⟩ := run_mapM_res r s rs _ h
    refine ⟨f t :: vs, ?_, h2⟩
    have e := r.2 t
    rw [List.mapM_cons, Sem.run_bind]
    simp only [resSem, Sem.run_pure, Result.andThen_ok, Sem.run_bind, h1, e]
  | .cell a T :: rs, K, h => by
    obtain ⟨v, ⟨ad, ha, hl⟩, hr⟩ := h
    obtain ⟨vs, h1, h2⟩ := run_mapM_res r s rs _ hr
    refine ⟨v :: vs, ?_, h2⟩
    have e := r.2 a
    rw [List.mapM_cons, Sem.run_bind]
    simp only [resSem, Sem.run_pure, Sem.run_bind, e, ha, asAddr, Result.andThen_ok, hl w s, h1]

/-- some of what is owned is handed back -/
theorem pk {E : Env} {H c d : List HProp} (is : List Nat) (h : pick is H = some (c, d)) : ∀ w, St E H w → St E c w := fun _ s => (s.perm (pick_perm h)).drop_tail
def argsFr (args : List Value) : Fr := fun i => args.getD i undef

theorem Rel.args {args : List Value} {m : Nat} (h : args.length ≤ m) : Rel m (argsFr args) (args.toArray ++ Array.replicate (m - args.length) undef) := by
  refine ⟨by simp; omega, fun i => ?_⟩
  unfold argsFr
  by_cases hi : i < args.length
  · simp [Array.getD, hi, show i < args.length + (m - args.length) by omega]
  · simp only [Array.getD, List.getD]
    rw [List.getElem?_eq_none (by omega)]
    split
    · rename_i h2
      simp only [Array.size_append, List.size_toArray, Array.size_replicate] at h2
      simp [Array.getElem_append, hi]
    · rfl

/-- into a function -/
theorem Does.enter {P : Program} {g : FuncId} {fn : Func} {c : Code} {args : List Value} {E : Env} {H : List HProp} {Q : Value → List HProp → Prop} (n : Nat) (rs : List ResultVar)
    (hf : P.funcs[g]? = some fn) (hb : fn.body = some c) (hn : fn.ntmps = n) (hr : fn.results = rs.toArray) (ha : args.length ≤ n)
    (h : Body P n c (argsFr args) E H fun e f' H' => (e = .norm ∨ e = .ret) ∧ ResK P f' E H' rs fun vs => ∃ c, (∀ w, St E H' w → St E c w) ∧ Q (mkRes vs) c) :
    Does P g args.toArray E H Q := fun w s => by
  refine calls_of_wp hf hb (wp_mono (h w { tmps := args.toArray ++ Array.replicate (fn.ntmps - args.toArray.size) undef, defers := [] } (by
    exact hn ▸ Rel.args (args := args) (m := n) ha) rfl s) ?_)
  have fin : ∀ e a w', (e = Ex.norm ∨ e = Ex.ret) → Ends n E (fun f' H' => (e = .norm ∨ e = .ret) ∧ ResK P f' E H' rs fun vs => ∃ c, (∀ w, St E H' w → St E c w) ∧ Q (mkRes vs) c) a w' →
      a.defers = [] ∧ ∃ v, (results fn a.tmps).run P w' = .ok v w' ∧ ∃ v' H', Ending.returned v = .returned v' ∧ Q v' H' ∧ St E H' w' := by
    rintro e a w' _ ⟨hd, f', H', r, ⟨_, hk⟩, s'⟩
    obtain ⟨vs, h1, c, hp, q⟩ := run_mapM_res r s' rs _ hk
    refine ⟨hd, mkRes vs, ?_, _, c, rfl, q, hp _ s'⟩
    have hm : results fn a.tmps = (do let vs ← rs.toArray.mapM (resSem a.tmps); pure (if h : vs.size = 1 then vs[0] else .tuple vs)) := by
      unfold results; rw [hr]; congr 1
    rw [hm, List.mapM_toArray, Sem.run_bind, Sem.run_map, h1]
    simp only [Result.andThen_ok, Sem.run_pure]
    match vs with
    | [] => rfl
    | [v] => rfl
    | v :: u :: vs => simp [mkRes]
  intro e a w' q
  cases e with
  | normal => exact fin .norm a w' (.inl rfl) q
  | ret => exact fin .ret a w' (.inr rfl) q
  | exit id => obtain ⟨_, _, _, _, ⟨h, _⟩, _⟩ := q; rcases h with h | h <;> cases h
  | goto l => exact q.elim
  | panic c => exact q.elim
  | outgrown => exact q.elim
end Go.Sx
