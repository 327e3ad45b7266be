/- Frames written out as lists, and the rules in that form. -/
import Derived.Test.YtijjjdljdjnbaaaSx7
namespace Go.Sx
open Go

inductive Ent where
  | set (i : Nat) (v : Value)
  | many (W : List Nat) (u : Fr)
def fr : List Ent → Fr
  | [] => fr0
  | .set i v :: F => upd (fr F) i v
  | .many W u :: F => mix W u (fr F)
def look : List Ent → Nat → Option Value
  | [], _ => some undef
  | .set i v :: F, t => bif Nat.beq t i then some v else look F t
  | .many W u :: F, t => bif W.any (Nat.beq t) then some (u t) else look F t
theorem look_fr : ∀ (F : List Ent) (t : Nat), look F t = some (fr F t)
  | [], _ => rfl
  | .set i v :: F, t => by
    simp only [look, fr, upd, look_fr F t]
    cases Nat.beq t i <;> rfl
  | .many W u :: F, t => by
    simp only [look, fr, mix, look_fr F t]
    cases W.any (Nat.beq t) <;> rfl
def evl (F : List Ent) : Operand → Option Value
  | .tmp t => look F t
  | .const v => some v
  | .global g => some (.pointer (some ⟨g, 0, none⟩))
  | .func g => some (.func (.func g) #[] #[])
theorem lk {F : List Ent} {x : Operand} {v : Value} (h : evl F x = some v) : ev (fr F) x = v := by
  cases x with
  | tmp t => simp only [evl, look_fr F t] at h; exact Option.some.inj h
  | const u => exact Option.some.inj h
  | global g => exact Option.some.inj h
  | func g => exact Option.some.inj h
def evls (F : List Ent) : List Operand → Option (List Value)
  | [] => some []
  | x :: xs => match evl F x, evls F xs with
    | some v, some vs => some (v :: vs)
    | _, _ => none
theorem lks {F : List Ent} : ∀ {xs : List Operand} {vs : List Value}, evls F xs = some vs → evs (fr F) xs = vs
  | [], _, h => by simp only [evls, Option.some.injEq] at h; subst h; rfl
  | x :: xs, vs, h => by
    simp only [evls] at h
    split at h
    · rename_i v us h1 h2
      obtain rfl := Option.some.inj h
      simp only [evs, List.map_cons, lk h1]
      exact congrArg _ (lks h2)
    · cases h
def evps (F : List Ent) : List (Nat × Operand) → Option (List (Nat × Value))
  | [] => some []
  | (i, x) :: xs => match evl F x, evps F xs with
    | some v, some vs => some ((i, v) :: vs)
    | _, _ => none
theorem lkp {F : List Ent} : ∀ {xs : List (Nat × Operand)} {vs : List (Nat × Value)}, evps F xs = some vs → xs.map (fun p => (p.1, ev (fr F) p.2)) = vs
  | [], _, h => by simp only [evps, Option.some.injEq] at h; subst h; rfl
  | (i, x) :: xs, vs, h => by
    simp only [evps] at h
    split at h
    · rename_i v us h1 h2
      obtain rfl := Option.some.inj h
      simp only [List.map_cons, lk h1]
      exact congrArg _ (lkp h2)
    · cases h
def argsL : Nat → List Value → List Ent
  | _, [] => []
  | i, v :: vs => .set i v :: argsL (i + 1) vs
theorem fr_argsL : ∀ (i : Nat) (vs : List Value) (t : Nat), fr (argsL i vs) t = if t < i then undef else vs.getD (t - i) undef
  | i, [], t => by simp [argsL, fr, fr0]
  | i, v :: vs, t => by
    simp only [argsL, fr, upd]
    rw [fr_argsL (i + 1) vs t]
    by_cases h : t = i
    · subst h; simp
    · have hb : Nat.beq t i = false := by
        cases hb : Nat.beq t i with
        | false => rfl
        | true => exact absurd (Nat.eq_of_beq_eq_true hb) h
      rw [hb, cond_false]
      by_cases h2 : t < i
      · simp [h2, show t < i + 1 by omega]
      · rw [if_neg (by omega), if_neg h2, show t - i = (t - (i + 1)) + 1 by omega]; simp
theorem argsFr_eq (vs : List Value) : argsFr vs = fr (argsL 0 vs) := by
  funext t; rw [fr_argsL]; simp [argsFr]

section
variable {P : Program} {n : Nat} {F : List Ent} {E : Env} {H : List HProp} {K : Kont} {all : Array Oper} {rest : List Oper} {dd : Nat} {op : Op} {ty : TypeId} {pos : String} {aft : Array Edge} {v : Value}
/-- into a function -/
theorem Does.go {g : FuncId} {fn : Func} {c : Code} {args : List Value} {Q : Value → List HProp → Prop} (n : Nat) (rs : List ResultVar)
    (hf : P.funcs[g]? = some fn) (hb : fn.body = some c) (hn : fn.ntmps = n) (hr : fn.results = rs.toArray) (ha : Nat.ble args.length n = true)
    (h : Body P n c (fr (argsL 0 args)) E H fun e f' H' => (e = .norm ∨ e = .ret) ∧ ResK P f' E H' rs fun vs => ∃ c, (∀ w, St E H' w → St E c w) ∧ Q (mkRes vs) c) :
    Does P g args.toArray E H Q := Does.enter n rs hf hb hn hr (Nat.le_of_ble_eq_true ha) (by rw [argsFr_eq]; exact h)

theorem Ops.d (h : Det P n (fr F) E H ⟨some dd, op, ty, pos, aft, none⟩ v) (hd : Nat.blt dd n = true) (k : Ops P n all rest (fr (.set dd v :: F)) E H K) : Ops P n all (⟨some dd, op, ty, pos, aft, none⟩ :: rest) (fr F) E H K :=
  Ops.stp rfl hd (Det.stp h k)
theorem Ops.u (h : Dtu P n (fr F) E H ⟨some dd, op, ty, pos, aft, none⟩ v) (hd : Nat.blt dd n = true) (k : Ops P n all rest (fr (.set dd v :: F)) E H K) : Ops P n all (⟨some dd, op, ty, pos, aft, none⟩ :: rest) (fr F) E H K :=
  Ops.stp rfl hd (Det.stp h.det k)
theorem Ops.s {q : Bool} (h : Stp q P n (fr F) E H ⟨some dd, op, ty, pos, aft, none⟩ fun v H' => Ops P n all rest (fr (.set dd v :: F)) E H' K) (hd : Nat.blt dd n = true) : Ops P n all (⟨some dd, op, ty, pos, aft, none⟩ :: rest) (fr F) E H K :=
  Ops.stp rfl hd h
theorem Ops.e {q : Bool} (h : Stp q P n (fr F) E H ⟨none, op, ty, pos, aft, none⟩ fun _ H' => Ops P n all rest (fr F) E H' K) : Ops P n all (⟨none, op, ty, pos, aft, none⟩ :: rest) (fr F) E H K :=
  Ops.stp rfl rfl h
/-- guarded, and wanted -/
theorem Ops.gd {j t : Nat} {b : Bool} (hj : guardSlot all j = some t) (ht : Nat.blt t n = true) (hb : look F t = some (.bool b)) (h : Det P n (fr F) E H ⟨some dd, op, ty, pos, aft, some (j, b)⟩ v) (hd : Nat.blt dd n = true) (k : Ops P n all rest (fr (.set dd v :: F)) E H K) :
    Ops P n all (⟨some dd, op, ty, pos, aft, some (j, b)⟩ :: rest) (fr F) E H K :=
  Ops.gyes rfl hj ht (Option.some.inj ((look_fr F t).symm.trans hb)) hd (Det.stp h k)
theorem Ops.gu {j t : Nat} {b : Bool} (hj : guardSlot all j = some t) (ht : Nat.blt t n = true) (hb : look F t = some (.bool b)) (h : Dtu P n (fr F) E H ⟨some dd, op, ty, pos, aft, some (j, b)⟩ v) (hd : Nat.blt dd n = true) (k : Ops P n all rest (fr (.set dd v :: F)) E H K) :
    Ops P n all (⟨some dd, op, ty, pos, aft, some (j, b)⟩ :: rest) (fr F) E H K := Ops.gd hj ht hb h.det hd k
theorem Ops.gs {q : Bool} {j t : Nat} {b : Bool} (hj : guardSlot all j = some t) (ht : Nat.blt t n = true) (hb : look F t = some (.bool b)) (h : Stp q P n (fr F) E H ⟨some dd, op, ty, pos, aft, some (j, b)⟩ fun v H' => Ops P n all rest (fr (.set dd v :: F)) E H' K) (hd : Nat.blt dd n = true) :
    Ops P n all (⟨some dd, op, ty, pos, aft, some (j, b)⟩ :: rest) (fr F) E H K :=
  Ops.gyes rfl hj ht (Option.some.inj ((look_fr F t).symm.trans hb)) hd h
/-- guarded, and not wanted -/
theorem Ops.gn {j t : Nat} {b : Bool} {v : Value} (hj : guardSlot all j = some t) (ht : Nat.blt t n = true) (hb : look F t = some v) (hne : isB v b = false) (hd : Nat.blt dd n = true) (k : Ops P n all rest (fr (.set dd undef :: F)) E H K) :
    Ops P n all (⟨some dd, op, ty, pos, aft, some (j, b)⟩ :: rest) (fr F) E H K :=
  Ops.gno rfl hj ht (by rw [Option.some.inj ((look_fr F t).symm.trans hb)]; exact hne) hd k
/-- a Bool in a slot is decided -/
theorem fr_decide {t : Nat} {b : Bool} (hb : look F t = some (.bool b)) {c : Bool} (hc : b = c) : fr F = fr (.set t (.bool c) :: F) := by
  subst hc
  funext s
  simp only [fr, upd]
  cases h : Nat.beq s t with
  | false => rfl
  | true =>
    have : s = t := Nat.eq_of_beq_eq_true h
    subst this
    exact Option.some.inj ((look_fr F s).symm.trans hb)
theorem Ops.dec {l : List Oper} (t : Nat) {b : Bool} (hb : look F t = some (.bool b)) (h1 : b = true → Ops P n all l (fr (.set t (.bool true) :: F)) E H K) (h2 : b = false → Ops P n all l (fr (.set t (.bool false) :: F)) E H K) : Ops P n all l (fr F) E H K := by
  cases hc : b with
  | true => rw [fr_decide hb hc]; exact h1 hc
  | false => rw [fr_decide hb hc]; exact h2 hc
theorem Ops.decP {l : List Oper} (t : Nat) {p : Prop} {_ : Decidable p} (hb : look F t = some (.bool (decide p))) (h1 : p → Ops P n all l (fr (.set t (.bool true) :: F)) E H K) (h2 : ¬ p → Ops P n all l (fr (.set t (.bool false) :: F)) E H K) : Ops P n all l (fr F) E H K :=
  Ops.dec t hb (fun e => h1 (of_decide_eq_true e)) (fun e => h2 (of_decide_eq_false e))
theorem Body.decP {c : Code} (t : Nat) {p : Prop} {_ : Decidable p} (hb : look F t = some (.bool (decide p))) (h1 : p → Body P n c (fr (.set t (.bool true) :: F)) E H K) (h2 : ¬ p → Body P n c (fr (.set t (.bool false) :: F)) E H K) : Body P n c (fr F) E H K := by
  by_cases hp : p
  · rw [fr_decide hb (decide_eq_true hp)]; exact h1 hp
  · rw [fr_decide hb (decide_eq_false hp)]; exact h2 hp

/-! ### loops -/
def LookAll (F : List Ent) : List (Nat × Value) → Prop
  | [] => True
  | (i, v) :: r => look F i = some v ∧ LookAll F r
def sets : List (Nat × Value) → List Ent
  | [] => []
  | (i, v) :: r => .set i v :: sets r
theorem fr_sets {F G : List Ent} : ∀ (L : List (Nat × Value)), LookAll F L → (∀ t, fr G t = fr F t) → ∀ t, fr (sets L ++ G) t = fr F t
  | [], _, h, t => h t
  | (i, v) :: r, ⟨h1, h2⟩, h, t => by
    simp only [sets, List.cons_append, fr, upd]
    cases hb : Nat.beq t i with
    | false => exact fr_sets r h2 h t
    | true =>
      have : t = i := Nat.eq_of_beq_eq_true hb
      subst this
      exact (Option.some.inj ((look_fr F t).symm.trans h1)).symm
def inW (W : List Nat) : List Ent → Bool
  | [] => true
  | .set i _ :: r => W.any (Nat.beq i) && inW W r
  | .many W' _ :: r => W'.all (fun i => W.any (Nat.beq i)) && inW W r
theorem fr_many {W : List Nat} {u : Fr} {F0 : List Ent} : ∀ (A : List Ent), inW W A = true → ∀ t, fr (.many W (fr (A ++ .many W u :: F0)) :: F0) t = fr (A ++ .many W u :: F0) t := by
  intro A hA t
  simp only [fr, mix]
  cases hW : W.any (Nat.beq t) with
  | true => rfl
  | false =>
    rw [cond_false]
    induction A with
    | nil => simp only [List.nil_append, fr, mix, hW, cond_false]
    | cons e A ih =>
      cases e with
      | set i v =>
        simp only [inW, Bool.and_eq_true] at hA
        simp only [List.cons_append, fr, upd]
        have hne : Nat.beq t i = false := by
          cases hb : Nat.beq t i with
          | false => rfl
          | true =>
            have : t = i := Nat.eq_of_beq_eq_true hb
            subst this
            rw [hA.1] at hW; cases hW
        rw [hne, cond_false]; exact ih hA.2
      | many W' u' =>
        simp only [inW, Bool.and_eq_true] at hA
        simp only [List.cons_append, fr, mix]
        have hne : W'.any (Nat.beq t) = false := by
          cases hb : W'.any (Nat.beq t) with
          | false => rfl
          | true =>
            obtain ⟨i, hi, hti⟩ := List.any_eq_true.1 hb
            have h1 := List.all_eq_true.1 hA.1 i hi
            have : t = i := Nat.eq_of_beq_eq_true hti
            subst this
            rw [h1] at hW; cases hW
        rw [hne, cond_false]; exact ih hA.2
def HeadF {γ : Type} (W : List Nat) (L : γ → List (Nat × Value)) (Hs : γ → List HProp) (Φ : γ → Prop) (F0 : List Ent) (E : Env) (g : γ) (f : Fr) (H : List HProp) : Prop :=
  Φ g ∧ (∀ w, St E H w → St E (Hs g) w) ∧ ∃ u, f = fr (sets (L g) ++ .many W u :: F0)
/-- the slots that code writes -/
def opsW : List Oper → List Nat → Option (List Nat)
  | [], acc => some acc
  | o :: r, acc => match opsW r acc with
    | some q => match o.dst with
      | some d => some (d :: q)
      | none => some q
    | none => none
def codeW : Code → List Nat → Option (List Nat)
  | .region _ ops _, acc => opsW ops.toList acc
  | .seq a b, acc => match codeW b acc with
    | some q => codeW a q
    | none => none
  | .cond _ a b, acc => match codeW b acc with
    | some q => codeW a q
    | none => none
  | .block _ c, acc => codeW c acc
  | .loop c, acc => codeW c acc
  | .scope c, acc => codeW c acc
  | _, acc => some acc
/-- a loop: W: the slots that it writes; L: what the living ones hold -/
theorem Body.loopF {c : Code} {γ : Type} {W : List Nat} (_hW : codeW c [] = some W) (L : γ → List (Nat × Value)) (Hs : γ → List HProp) (Φ : γ → Prop) (μ : γ → Nat) (g0 : γ) (h0 : Φ g0) (hL : LookAll F (L g0)) (hH : H = Hs g0)
    (round : ∀ g u, Φ g → Body P n c (fr (sets (L g) ++ .many W u :: F)) E (Hs g) (Round (HeadF W L Hs Φ F E) μ g K)) : Body P n (.loop c) (fr F) E H K := by
  refine Body.loop (HeadF W L Hs Φ F E) μ g0 ⟨h0, fun w s => by rw [← hH]; exact s, fr F, ?_⟩ ?_
  · funext t
    refine (fr_sets (F := F) (L g0) hL (fun t => ?_) t).symm
    simp only [fr, mix]
    cases W.any (Nat.beq t) <;> rfl
  · rintro g f H ⟨h1, hc, u, rfl⟩
    exact Body.conseq hc (round g u h1)
def splitF (k : Nat) : List Ent → Option (List Ent)
  | [] => none
  | e :: r => bif Nat.beq r.length k then some [] else match splitF k r with
    | some A => some (e :: A)
    | none => none
theorem Round.goF {γ : Type} {W : List Nat} {L : γ → List (Nat × Value)} {Hs : γ → List HProp} {Φ : γ → Prop} {μ : γ → Nat} {F0 : List Ent} {g : γ} {u : Fr} {A : List Ent} (g' : γ) (_hs : splitF F0.length F = some A) (hF : F = A ++ .many W u :: F0) (hA : inW W A = true) (hL : LookAll F (L g')) (hH : H = Hs g') (h : Φ g') (hm : μ g' < μ g) :
    Round (HeadF W L Hs Φ F0 E) μ g K .norm (fr F) H := by
  subst hF
  refine ⟨g', ⟨h, fun w s => by rw [← hH]; exact s, fr (A ++ .many W u :: F0), ?_⟩, hm⟩
  funext t
  exact (fr_sets (F := A ++ .many W u :: F0) (L g') hL (fun t => fr_many A hA t) t).symm

theorem Round.goK {γ : Type} {W : List Nat} {L : γ → List (Nat × Value)} {Hs : γ → List HProp} {Φ : γ → Prop} {μ : γ → Nat} {F0 : List Ent} {g : γ} {u : Fr} {A : List Ent} {C D : List HProp} (is : List Nat) (g' : γ) (_hs : splitF F0.length F = some A) (hF : F = A ++ .many W u :: F0) (hA : inW W A = true) (hL : LookAll F (L g')) (hp : pick is H = some (C, D)) (hH : C = Hs g') (h : Φ g') (hm : μ g' < μ g) :
    Round (HeadF W L Hs Φ F0 E) μ g K .norm (fr F) H := by
  subst hF
  refine ⟨g', ⟨h, fun w s => by rw [← hH]; exact pk is hp w s, fr (A ++ .many W u :: F0), ?_⟩, hm⟩
  funext t
  exact (fr_sets (F := A ++ .many W u :: F0) (L g') hL (fun t => fr_many A hA t) t).symm

/-- two ways come together -/
def Joint (I : Fr → List HProp → Prop) (K : Kont) : Kont
  | .norm, f, H => I f H
  | e, f, H => K e f H
theorem Joint.exit {I : Fr → List HProp → Prop} {f : Fr} {H : List HProp} {id : Nat} (h : K (.exit id) f H) : Joint I K (.exit id) f H := h
theorem Joint.ret {I : Fr → List HProp → Prop} {f : Fr} {H : List HProp} (h : K .ret f H) : Joint I K .ret f H := h
theorem Body.seqJ {c d : Code} {γ : Type} {W : List Nat} (_hW : codeW c [] = some W) (L : γ → List (Nat × Value)) (Hs : γ → List HProp) (Φ : γ → Prop)
    (h1 : Body P n c (fr F) E H (Joint (fun f H => ∃ g, HeadF W L Hs Φ F E g f H) K)) (h2 : ∀ g u, Φ g → Body P n d (fr (sets (L g) ++ .many W u :: F)) E (Hs g) K) : Body P n (.seq c d) (fr F) E H K :=
  Body.seq (Body.mono h1 fun e f H k => by
    cases e with
    | norm => obtain ⟨g, hΦ, hc, u, rfl⟩ := k; exact Body.conseq hc (h2 g u hΦ)
    | exit id => exact k
    | ret => exact k)
theorem fr_out {W : List Nat} {G : List Ent} {t : Nat} (hW : W.any (Nat.beq t) = false) : ∀ (A : List Ent), inW W A = true → fr (A ++ G) t = fr G t := by
  intro A hA
  induction A with
  | nil => rfl
  | cons e A ih =>
    cases e with
    | set i v =>
      simp only [inW, Bool.and_eq_true] at hA
      simp only [List.cons_append, fr, upd]
      have hne : Nat.beq t i = false := by
        cases hb : Nat.beq t i with
        | false => rfl
        | true =>
          have : t = i := Nat.eq_of_beq_eq_true hb
          subst this
          rw [hA.1] at hW; cases hW
      rw [hne, cond_false]; exact ih hA.2
    | many W' u' =>
      simp only [inW, Bool.and_eq_true] at hA
      simp only [List.cons_append, fr, mix]
      have hne : W'.any (Nat.beq t) = false := by
        cases hb : W'.any (Nat.beq t) with
        | false => rfl
        | true =>
          obtain ⟨i, hi, hti⟩ := List.any_eq_true.1 hb
          have h1 := List.all_eq_true.1 hA.1 i hi
          have : t = i := Nat.eq_of_beq_eq_true hti
          subst this
          rw [h1] at hW; cases hW
      rw [hne, cond_false]; exact ih hA.2
def splitJ (k : Nat) : List Ent → Option (List Ent)
  | [] => some []
  | e :: r => bif Nat.beq (r.length + 1) k then some [] else match splitJ k r with
    | some A => some (e :: A)
    | none => none
theorem Joint.goK {γ : Type} {W : List Nat} {L : γ → List (Nat × Value)} {Hs : γ → List HProp} {Φ : γ → Prop} {F0 : List Ent} {A : List Ent} {C D : List HProp} (is : List Nat) (g' : γ) (_hs : splitJ F0.length F = some A) (hF : F = A ++ F0) (hA : inW W A = true) (hL : LookAll F (L g')) (hp : pick is H = some (C, D)) (hH : C = Hs g') (h : Φ g') :
    Joint (fun f H => ∃ g, HeadF W L Hs Φ F0 E g f H) K .norm (fr F) H := by
  subst hF
  refine ⟨g', h, fun w s => by rw [← hH]; exact pk is hp w s, fr (A ++ F0), ?_⟩
  funext t
  refine (fr_sets (F := A ++ F0) (L g') hL (fun t => ?_) t).symm
  simp only [fr, mix]
  cases hW : W.any (Nat.beq t) with
  | true => rfl
  | false => rw [cond_false]; exact (fr_out hW A hA).symm

/-! ### open order -/
variable {ops : Array Oper} {k : Nat} {listed : Array Bool}
theorem AB.d (i : Nat) (hi : ops[i]? = some ⟨some dd, op, ty, pos, aft, none⟩) (hB : firstB ops listed i = true) (hmem : memB ⟨some dd, op, ty, pos, aft, none⟩ = true) (h : Det P n (fr F) E H ⟨some dd, op, ty, pos, aft, none⟩ v) (hd : Nat.blt dd n = true)
    (hk : AB P n ops k (listed.setIfInBounds i true) (fr (.set dd v :: F)) E H K) : AB P n ops (k + 1) listed (fr F) E H K := AB.first i hi hB hmem rfl hd h hk
theorem AB.gd (i : Nat) {j t : Nat} {b : Bool} (hi : ops[i]? = some ⟨some dd, op, ty, pos, aft, some (j, b)⟩) (hB : firstB ops listed i = true) (hmem : memB ⟨some dd, op, ty, pos, aft, some (j, b)⟩ = true) (hj : guardSlot ops j = some t) (ht : Nat.blt t n = true) (hb : look F t = some (.bool b))
    (h : Det P n (fr F) E H ⟨some dd, op, ty, pos, aft, some (j, b)⟩ v) (hd : Nat.blt dd n = true) (hk : AB P n ops k (listed.setIfInBounds i true) (fr (.set dd v :: F)) E H K) : AB P n ops (k + 1) listed (fr F) E H K :=
  AB.firstYes i hi hB hmem rfl hj ht (Option.some.inj ((look_fr F t).symm.trans hb)) hd h hk
theorem AB.u (i : Nat) (hi : ops[i]? = some ⟨some dd, op, ty, pos, aft, none⟩) (hB : firstB ops listed i = true) (h : Dtu P n (fr F) E H ⟨some dd, op, ty, pos, aft, none⟩ v) (hd : Nat.blt dd n = true)
    (hk : AB P n ops k (listed.setIfInBounds i true) (fr (.set dd v :: F)) E H K) : AB P n ops (k + 1) listed (fr F) E H K := AB.firstU i hi hB rfl hd h hk
theorem AB.gu (i : Nat) {j t : Nat} {b : Bool} (hi : ops[i]? = some ⟨some dd, op, ty, pos, aft, some (j, b)⟩) (hB : firstB ops listed i = true) (hj : guardSlot ops j = some t) (ht : Nat.blt t n = true) (hb : look F t = some (.bool b))
    (h : Dtu P n (fr F) E H ⟨some dd, op, ty, pos, aft, some (j, b)⟩ v) (hd : Nat.blt dd n = true) (hk : AB P n ops k (listed.setIfInBounds i true) (fr (.set dd v :: F)) E H K) : AB P n ops (k + 1) listed (fr F) E H K :=
  AB.firstYesU i hi hB rfl hj ht (Option.some.inj ((look_fr F t).symm.trans hb)) hd h hk
theorem AB.gn (i : Nat) {j t : Nat} {b : Bool} {v : Value} (hi : ops[i]? = some ⟨some dd, op, ty, pos, aft, some (j, b)⟩) (hB : firstB ops listed i = true) (hj : guardSlot ops j = some t) (ht : Nat.blt t n = true) (hb : look F t = some v) (hne : isB v b = false)
    (hd : Nat.blt dd n = true) (hk : AB P n ops k (listed.setIfInBounds i true) (fr (.set dd undef :: F)) E H K) : AB P n ops (k + 1) listed (fr F) E H K :=
  AB.firstNo i hi hB rfl hj ht (by rw [Option.some.inj ((look_fr F t).symm.trans hb)]; exact hne) hd hk
theorem AB.gs {q : Bool} (i : Nat) {j t : Nat} {b : Bool} (hi : ops[i]? = some ⟨some dd, op, ty, pos, aft, some (j, b)⟩) (hB : onlyB ops listed i = true) (hq : (q || barB ops i) = true) (hj : guardSlot ops j = some t) (ht : Nat.blt t n = true) (hb : look F t = some (.bool b))
    (h : Stp q P n (fr F) E H ⟨some dd, op, ty, pos, aft, some (j, b)⟩ fun v H' => AB P n ops k (listed.setIfInBounds i true) (fr (.set dd v :: F)) E H' K) (hd : Nat.blt dd n = true) : AB P n ops (k + 1) listed (fr F) E H K :=
  AB.onlyG i hi hB hq rfl hj ht (Option.some.inj ((look_fr F t).symm.trans hb)) hd h
theorem AB.s {q : Bool} (i : Nat) (hi : ops[i]? = some ⟨some dd, op, ty, pos, aft, none⟩) (hB : onlyB ops listed i = true) (hq : (q || barB ops i) = true)
    (h : Stp q P n (fr F) E H ⟨some dd, op, ty, pos, aft, none⟩ fun v H' => AB P n ops k (listed.setIfInBounds i true) (fr (.set dd v :: F)) E H' K) (hd : Nat.blt dd n = true) : AB P n ops (k + 1) listed (fr F) E H K := AB.only i hi hB hq rfl hd h
theorem AB.e {q : Bool} (i : Nat) (hi : ops[i]? = some ⟨none, op, ty, pos, aft, none⟩) (hB : onlyB ops listed i = true) (hq : (q || barB ops i) = true)
    (h : Stp q P n (fr F) E H ⟨none, op, ty, pos, aft, none⟩ fun _ H' => AB P n ops k (listed.setIfInBounds i true) (fr F) E H' K) : AB P n ops (k + 1) listed (fr F) E H K := AB.only i hi hB hq rfl rfl h
theorem AB.decP (t : Nat) {p : Prop} {_ : Decidable p} (hb : look F t = some (.bool (decide p))) (h1 : p → AB P n ops k listed (fr (.set t (.bool true) :: F)) E H K) (h2 : ¬ p → AB P n ops k listed (fr (.set t (.bool false) :: F)) E H K) : AB P n ops k listed (fr F) E H K := by
  by_cases hp : p
  · rw [fr_decide hb (decide_eq_true hp)]; exact h1 hp
  · rw [fr_decide hb (decide_eq_false hp)]; exact h2 hp
theorem AB.dec (t : Nat) {b : Bool} (hb : look F t = some (.bool b)) (h1 : b = true → AB P n ops k listed (fr (.set t (.bool true) :: F)) E H K) (h2 : b = false → AB P n ops k listed (fr (.set t (.bool false) :: F)) E H K) : AB P n ops k listed (fr F) E H K := by
  cases hc : b with
  | true => rw [fr_decide hb hc]; exact h1 hc
  | false => rw [fr_decide hb hc]; exact h2 hc
end
end Go.Sx
