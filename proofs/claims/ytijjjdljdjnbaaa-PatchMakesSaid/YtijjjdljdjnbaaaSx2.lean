/- Judgements on single operations, on regions in the text's order, and on regions whose order is open. -/
import Derived.Test.YtijjjdljdjnbaaaSx1
namespace Go.Sx
open Go

/-- what an operation comes to: a value and a world; a call by what it returns -/
def OpR (P : Program) (o : Oper) (a : Act) (w : World) (K : Value → World → Prop) : Prop :=
  match (execOp a.eval o).run P w with
  | .ok (.value v) w' => K v w'
  | .ok .skip w' => K undef w'
  | .ok (.enter g args) w' => Calls P g args w' fun e w'' => ∃ v, e = .returned v ∧ K v w''
  | _ => False
theorem OpR.mono {P : Program} {o : Oper} {a : Act} {w : World} {K K' : Value → World → Prop} (h : OpR P o a w K) (k : ∀ v w, K v w → K' v w) : OpR P o a w K' := by
  unfold OpR at *
  split at h
  · exact k _ _ h
  · exact k _ _ h
  · exact h.mono fun e w ⟨v, e1, q⟩ => ⟨v, e1, k _ _ q⟩
  · exact h.elim
theorem OpR.wp {P : Program} {o : Oper} {a : Act} {w : World} {K : Value → World → Prop} {next : Act → World → Prop} {Q : Exit → Act → World → Prop} (h : OpR P o a w K) (k : ∀ v w', K v w' → next (a.put o.dst v) w') : o.wp P a w next Q := by
  unfold OpR at h
  unfold Oper.wp
  generalize (execOp a.eval o).run P w = r at *
  cases r with
  | halt x w' => cases h
  | ok x w' =>
    cases x <;> simp only [Oper.upon] at * <;> first
      | exact k _ _ h
      | (refine h.mono ?_; rintro e w'' ⟨v, rfl, q⟩; exact k _ _ q)
      | cases h

def Stp (q : Bool) (P : Program) (n : Nat) (f : Fr) (E : Env) (H : List HProp) (o : Oper) (K : Value → List HProp → Prop) : Prop :=
  ∀ (w : World) (a : Act), Rel n f a.tmps → St E H w → OpR P o a w fun v w' => (q = true → Ext w w') ∧ ∃ H', K v H' ∧ St E H' w'
def Det (P : Program) (n : Nat) (f : Fr) (E : Env) (H : List HProp) (o : Oper) (v : Value) : Prop :=
  ∀ (w : World) (a : Act), Rel n f a.tmps → St E H w → (execOp a.eval o).run P w = .ok (.value v) w
/-- the same, in whatever world, if there is one in which the state holds -/
def Dtu (P : Program) (n : Nat) (f : Fr) (E : Env) (H : List HProp) (o : Oper) (v : Value) : Prop :=
  ∀ (w0 : World), St E H w0 → ∀ (w : World) (a : Act), Rel n f a.tmps → (execOp a.eval o).run P w = .ok (.value v) w
section
variable {P : Program} {n : Nat} {f : Fr} {E : Env} {H : List HProp}
theorem Dtu.det {o : Oper} {v : Value} (h : Dtu P n f E H o v) : Det P n f E H o v := fun w a r s => h w s w a r
theorem Det.stp {o : Oper} {v : Value} {K : Value → List HProp → Prop} (h : Det P n f E H o v) (k : K v H) : Stp true P n f E H o K := fun w a r s => by
  unfold OpR; rw [h w a r s]; exact ⟨fun _ => Ext.refl _, H, k, s⟩
theorem Stp.weak {o : Oper} {K : Value → List HProp → Prop} (h : Stp true P n f E H o K) : Stp false P n f E H o K := fun w a r s => (h w a r s).mono fun _ _ ⟨_, q⟩ => ⟨(fun e => by cases e), q⟩
theorem Stp.mono {q : Bool} {o : Oper} {K K' : Value → List HProp → Prop} (h : Stp q P n f E H o K) (k : ∀ v H', K v H' → K' v H') : Stp q P n f E H o K' := fun w a r s =>
  (h w a r s).mono fun _ _ ⟨x, H', kk, s'⟩ => ⟨x, H', k _ _ kk, s'⟩
end

/-! ### a region in the text's order -/
def Ops (P : Program) (n : Nat) (all : Array Oper) (l : List Oper) (f : Fr) (E : Env) (H : List HProp) (K : Kont) : Prop :=
  ∀ w a, Rel n f a.tmps → a.defers = [] → St E H w → wpList P all (Post n E K) l a w

/-- the Bool that a guard looks at -/
def guardSlot (all : Array Oper) (j : Nat) : Option Nat := (all[j]?).bind (·.dst)
section
variable {P : Program} {n : Nat} {f : Fr} {E : Env} {H : List HProp} {K : Kont} {all : Array Oper} {rest : List Oper}
theorem Ops.nil (h : K .norm f H) : Ops P n all [] f E H K := fun _ _ r d s => ⟨d, f, H, r, h, s⟩
theorem wanted_none {o : Oper} (h : o.guard = none) (y : Nat → Option Bool) : Region.wanted o y = true := by simp [Region.wanted, h]
theorem yielded_rel {a : Act} (r : Rel n f a.tmps) {j d : Nat} {b : Bool} (hj : guardSlot all j = some d) (hd : Nat.blt d n = true) (hb : f d = .bool b) : yielded all a.tmps j = some b := by
  unfold yielded
  unfold guardSlot at hj
  rw [hj, Option.bind_some, r.getElem? (by simpa [Nat.blt_eq] using hd), hb]
/-- is it this Bool? -/
def isB (v : Value) (b : Bool) : Bool := match v with
  | .bool c => c == b
  | _ => false
theorem wanted_rel {a : Act} {o : Oper} (r : Rel n f a.tmps) {j d : Nat} {b : Bool} (hg : o.guard = some (j, b)) (hj : guardSlot all j = some d) (hd : Nat.blt d n = true) (hne : isB (f d) b = false) : Region.wanted o (yielded all a.tmps) = false := by
  simp only [Region.wanted, hg]
  unfold yielded
  unfold guardSlot at hj
  rw [hj, Option.bind_some, r.getElem? (by simpa [Nat.blt_eq] using hd)]
  revert hne
  cases f d <;> simp [isB]
theorem Ops.stp {q : Bool} {o : Oper} (hg : o.guard = none) (hd : okD n o.dst = true) (h : Stp q P n f E H o fun v H' => Ops P n all rest (updO f o.dst v) E H' K) :
    Ops P n all (o :: rest) f E H K := fun w a r d s => by
  unfold wpList
  rw [if_pos (wanted_none hg _)]
  refine .inl ((h w a r s).wp ?_)
  rintro v w' ⟨_, H', k, s'⟩
  exact k w' _ (r.put hd v) ((put_defers _ _ _).trans d) s'
theorem Ops.gyes {q : Bool} {o : Oper} {j d : Nat} {b : Bool} (hg : o.guard = some (j, b)) (hj : guardSlot all j = some d) (hdn : Nat.blt d n = true) (hb : f d = .bool b)
    (hd : okD n o.dst = true) (h : Stp q P n f E H o fun v H' => Ops P n all rest (updO f o.dst v) E H' K) : Ops P n all (o :: rest) f E H K := fun w a r d s => by
  unfold wpList
  have e : Region.wanted o (yielded all a.tmps) = true := by simp only [Region.wanted, hg, yielded_rel r hj hdn hb]; simp
  rw [if_pos e]
  refine .inl ((h w a r s).wp ?_)
  rintro v w' ⟨_, H', k, s'⟩
  exact k w' _ (r.put hd v) ((put_defers _ _ _).trans d) s'
theorem Ops.gno {o : Oper} {j d : Nat} {b : Bool} (hg : o.guard = some (j, b)) (hj : guardSlot all j = some d) (hdn : Nat.blt d n = true) (hne : isB (f d) b = false)
    (hd : okD n o.dst = true) (h : Ops P n all rest (updO f o.dst undef) E H K) : Ops P n all (o :: rest) f E H K := fun w a r d s => by
  unfold wpList
  have e : Region.wanted o (yielded all a.tmps) = false := wanted_rel r hg hj hdn hne
  rw [if_neg (by rw [e]; simp)]
  exact h w _ (r.put hd undef) ((put_defers _ _ _).trans d) s
theorem Body.region {id : Nat} {l : List Oper} (h : Ops P n l.toArray l f E H K) : Body P n (.region id l.toArray false) f E H K := fun w a r d s => wp_region_lit (h w a r d s)
/-- a test that a region's guards ask is decided ahead -/
theorem Ops.split {b : Bool} {l : List Oper} (h1 : b = true → Ops P n all l f E H K) (h2 : b = false → Ops P n all l f E H K) : Ops P n all l f E H K := by
  cases b
  · exact h2 rfl
  · exact h1 rfl
end

/-! ### a region whose order is open -/
def Closed (ops : Array Oper) (listed : Array Bool) : Prop :=
  ∀ j oj, ops[j]? = some oj → listed.getD j false = true → ∀ e ∈ oj.after, Region.binds .any e = true → listed.getD e.on false = true
/-- j waits for i, on whatever road -/
def reaches (ops : Array Oper) : Nat → Nat → Nat → Bool
  | 0, _, _ => false
  | k + 1, j, i => match ops[j]? with
    | some o => o.after.any fun e => Region.binds .any e && (e.on == i || reaches ops k e.on i)
    | none => false
theorem reaches_listed {ops : Array Oper} {listed : Array Bool} (hc : Closed ops listed) {i : Nat} : ∀ (k j : Nat) (oj : Oper), ops[j]? = some oj → reaches ops k j i = true →
    (∀ e ∈ oj.after, Region.binds .any e = true → listed.getD e.on false = true) → listed.getD i false = true
  | 0, _, _, _, h, _ => by cases h
  | k + 1, j, oj, hj, h, hall => by
    simp only [reaches, hj] at h
    obtain ⟨e, he, hb⟩ := Array.any_eq_true'.1 h
    simp only [Bool.and_eq_true, Bool.or_eq_true, beq_iff_eq] at hb
    have hl := hall e he hb.1
    rcases hb.2 with hi | hr
    · rw [← hi]; exact hl
    · cases ho : ops[e.on]? with
      | none => cases k with
        | zero => cases hr
        | succ k => simp only [reaches, ho] at hr; cases hr
      | some oe => exact reaches_listed hc k e.on oe ho hr fun e' he' hb' => hc e.on oe ho hl e' he' hb'
/-- may an operation's value hang on memory? -/
def memB (o : Oper) : Bool := match o.op with
  | .move _ | .assign _ | .pick .. | .build .. | .fieldAddr .. | .field .. | .indexAddr .. | .index .. | .unOp .. | .binOp .. | .extract .. | .slice .. | .makeFunc .. | .makeInterface .. | .nilCheck _ => false
  | .call { callee := .builtin .len, .. } | .call { callee := .builtin .cap, .. } | .call { callee := .builtin .max, .. } | .call { callee := .builtin .min, .. } => false
  | _ => true
def memI (ops : Array Oper) (i : Nat) : Bool := match ops[i]? with
  | some o => memB o
  | none => false
/-- whatever comes up and looks at memory is behind j or ahead of it -/
def barB (ops : Array Oper) (j : Nat) : Bool := (List.range ops.size).all fun i => i == j || !memI ops i || reaches ops ops.size j i || reaches ops ops.size i j
def Bar (ops : Array Oper) (j : Nat) : Prop := ∀ listed, Closed ops listed → j ∈ Region.ready .any ops listed → ∀ i ∈ Region.ready .any ops listed, memI ops i = true → i = j
theorem getD_tf {listed : Array Bool} {i : Nat} (h : listed.getD i true = false) (h' : listed.getD i false = true) : False := by
  rcases Nat.lt_or_ge i listed.size with x | x
  · simp [x] at h h'; rw [h] at h'; cases h'
  · simp [Array.getElem?_eq_none x] at h
theorem bar_of {ops : Array Oper} {j : Nat} (h : barB ops j = true) : Bar ops j := fun listed hc hj i hi hm => by
  obtain ⟨hju, oj, hoj, hjall⟩ := mem_ready.1 hj
  obtain ⟨hiu, oi, hoi, hiall⟩ := mem_ready.1 hi
  have h1 := List.all_eq_true.1 h i (List.mem_range.2 (Array.getElem?_eq_some_iff.1 hoi).1)
  simp only [Bool.or_eq_true, beq_iff_eq, hm, Bool.not_true, Bool.false_eq_true, or_false] at h1
  rcases h1 with (h1 | h1) | h1
  · exact h1
  · exact (getD_tf hiu (reaches_listed hc _ j oj hoj h1 hjall)).elim
  · exact (getD_tf hju (reaches_listed hc _ i oi hoi h1 hiall)).elim
theorem Closed.set {ops : Array Oper} {listed : Array Bool} (hc : Closed ops listed) {i : Nat} (hi : i ∈ Region.ready .any ops listed) : Closed ops (listed.setIfInBounds i true) := fun j oj hj hl e he hb => by
  obtain ⟨_, oi, hoi, hall⟩ := mem_ready.1 hi
  by_cases hij : i = j
  · subst hij
    obtain rfl : oj = oi := Option.some.inj (hj.symm.trans hoi)
    exact getD_set_true (hall e he hb)
  · rw [getD_set_ne false hij] at hl
    exact getD_set_true (hc j oj hj hl e he hb)

/-- operation number i comes up -/
def OpI (P : Program) (ops : Array Oper) (i : Nat) (a : Act) (w : World) (K : Act → World → Prop) : Prop :=
  match ops[i]? with
  | none => K a w
  | some o => if Region.wanted o (yielded ops a.tmps) then OpR P o a w fun v w' => K (a.put o.dst v) w' else K (a.put o.dst undef) w
theorem OpI.mono {P : Program} {ops : Array Oper} {i : Nat} {a : Act} {w : World} {K K' : Act → World → Prop} (h : OpI P ops i a w K) (k : ∀ a w, K a w → K' a w) : OpI P ops i a w K' := by
  unfold OpI at *
  split
  · rename_i ho; simp only [ho] at h; exact k _ _ h
  · rename_i o ho
    simp only [ho] at h
    split
    · rename_i hw; rw [if_pos hw] at h; exact h.mono fun _ _ q => k _ _ q
    · rename_i hw; rw [if_neg hw] at h; exact k _ _ h
theorem OpI.wpOp {P : Program} {ops : Array Oper} {i : Nat} {a : Act} {w : World} {K : Act → World → Prop} {Q : Exit → Act → World → Prop} (h : OpI P ops i a w K) : wpOp P ops Q i K a w := by
  unfold OpI at h
  unfold Go.wpOp
  split
  · rename_i ho; simp only [ho] at h; exact h
  · rename_i o ho
    simp only [ho] at h
    split
    · rename_i hw; rw [if_pos hw] at h; exact .inl (h.wp fun _ _ q => q)
    · rename_i hw; rw [if_neg hw] at h; exact h

def AnyX (P : Program) (ops : Array Oper) (Q : Exit → Act → World → Prop) : Nat → Array Bool → Act → World → Prop
  | 0, listed, a, w => Region.ready .any ops listed = [] ∧ Q .normal a w
  | k + 1, listed, a, w => (Region.ready .any ops listed = [] → Q .normal a w) ∧
    ∀ i ∈ Region.ready .any ops listed, OpI P ops i a w fun a' w' => (Ext w w' ∨ Bar ops i) ∧ AnyX P ops Q k (listed.setIfInBounds i true) a' w'
theorem AnyX.wpAny {P : Program} {ops : Array Oper} {Q : Exit → Act → World → Prop} : ∀ (k : Nat) (listed : Array Bool) (a : Act) (w : World), AnyX P ops Q k listed a w → Go.wpAny P .any ops Q k listed a w
  | 0, _, _, _, h => h
  | k + 1, _, _, _, h => ⟨h.1, fun i hi => ((h.2 i hi).mono fun _ _ ⟨_, q⟩ => AnyX.wpAny k _ _ _ q).wpOp⟩

/-- in this frame, in this world and in each that has grown from it, o yields v and nothing else -/
def YieldsX (P : Program) (ops : Array Oper) (o : Oper) (v : Value) (a : Act) (w : World) : Prop :=
  (Region.wanted o (yielded ops a.tmps) = true ∧ ∀ w', Ext w w' → (execOp a.eval o).run P w' = .ok (.value v) w') ∨ (Region.wanted o (yielded ops a.tmps) = false ∧ v = undef)
theorem YieldsX.of_same {P : Program} {ops : Array Oper} {o : Oper} {v : Value} {a a' : Act} {w w' : World} (hy : YieldsX P ops o v a w) (he : execOp a'.eval o = execOp a.eval o)
    (hw : Region.wanted o (yielded ops a'.tmps) = Region.wanted o (yielded ops a.tmps)) (x : Ext w w') : YieldsX P ops o v a' w' := by
  unfold YieldsX at *
  rw [he, hw]
  exact hy.imp (fun ⟨h1, h2⟩ => ⟨h1, fun w'' x' => h2 w'' (x.trans x')⟩) id
theorem YieldsX.opI {P : Program} {ops : Array Oper} {i : Nat} {o : Oper} {v : Value} {a : Act} {w : World} {K : Act → World → Prop} (hi : ops[i]? = some o) (hy : YieldsX P ops o v a w) (h : K (a.put o.dst v) w) : OpI P ops i a w K := by
  unfold OpI
  simp only [hi]
  rcases hy with ⟨hw, hv⟩ | ⟨hw, rfl⟩
  · rw [if_pos hw]; unfold OpR; rw [hv w (Ext.refl w)]; exact h
  · rw [if_neg (by rw [hw]; simp)]; exact h

theorem OpI.put {P : Program} {ops : Array Oper} {j : Nat} {oi oj : Oper} {v : Value} (hj : ops[j]? = some oj) (hap : oi.apart ops oj = true)
    (hsi : ∀ cs b, oi.op ≠ .select cs b) (hsj : ∀ cs b, oj.op ≠ .select cs b) {K : Act → World → Prop} {a : Act} {w : World}
    (hy : YieldsX P ops oi v a w) (h : OpI P ops j (a.put oi.dst v) w fun a' w' => Ext w w' ∧ K a' w') :
    OpI P ops j a w fun a' w' => Ext w w' ∧ YieldsX P ops oi v a' w' ∧ K (a'.put oi.dst v) w' := by
  obtain ⟨h1, h2, h3⟩ := Oper.apart_spec hap
  have keep : ∀ (u : Value) (w' : World), Ext w w' → YieldsX P ops oi v (a.put oj.dst u) w' := fun u w' x =>
    hy.of_same (execOp_put oi hsi a oj.dst u h3) (wanted_put oi a oj.dst u h3) x
  unfold OpI at *
  simp only [hj] at *
  rw [wanted_put oj a oi.dst v h1] at h
  split
  · rename_i hw
    rw [if_pos hw] at h
    unfold OpR at *
    rw [execOp_put oj hsj a oi.dst v h1] at h
    generalize (execOp a.eval oj).run P w = r at *
    cases r with
    | halt x w' => exact h
    | ok n w' =>
      cases n <;> first
        | exact h
        | exact ⟨h.1, keep _ _ h.1, by rw [← Act.put_comm a v _ h2]; exact h.2⟩
        | exact Calls.mono h fun e w'' ⟨u, e1, x, k⟩ => ⟨u, e1, x, keep _ _ x, by rw [← Act.put_comm a v u h2]; exact k⟩
  · rename_i hw
    rw [if_neg hw] at h
    exact ⟨h.1, keep _ _ h.1, by rw [← Act.put_comm a v undef h2]; exact h.2⟩

theorem AnyX.first {P : Program} {ops : Array Oper} {Q : Exit → Act → World → Prop} {i : Nat} {oi : Oper} {v : Value} (hi : ops[i]? = some oi) (hsel : ∀ (j : Nat) (o : Oper) cs b, ops[j]? = some o → o.op ≠ .select cs b) :
    ∀ (fuel : Nat) (listed : Array Bool) (a : Act) (w : World), Closed ops listed →
      (∀ j oj, ops[j]? = some oj → j ≠ i → listed.getD j true = false → (∀ e ∈ oj.after, Region.binds .any e = true → e.on ≠ i) → oi.apart ops oj = true) →
      i ∈ Region.ready .any ops listed → memB oi = true → YieldsX P ops oi v a w →
      AnyX P ops Q fuel (listed.setIfInBounds i true) (a.put oi.dst v) w → AnyX P ops Q (fuel + 1) listed a w := by
  intro fuel
  induction fuel with
  | zero =>
    intro listed a w _ _ hr _ hy H
    refine ⟨fun h => (by rw [h] at hr; cases hr), fun j hj => ?_⟩
    by_cases hji : j = i
    · subst hji; exact hy.opI hi ⟨.inl (Ext.refl w), H⟩
    · have := ready_mono hj hji
      rw [H.1] at this
      cases this
  | succ fuel ih =>
    intro listed a w hc hfree hr hmem hy H
    refine ⟨fun h => (by rw [h] at hr; cases hr), fun j hj => ?_⟩
    by_cases hji : j = i
    · subst hji; exact hy.opI hi ⟨.inl (Ext.refl w), H⟩
    · have h1 := H.2 j (ready_mono hj hji)
      have h1' : OpI P ops j (a.put oi.dst v) w fun a' w' => Ext w w' ∧ AnyX P ops Q fuel ((listed.setIfInBounds i true).setIfInBounds j true) a' w' :=
        h1.mono fun a' w' ⟨x, q⟩ => ⟨x.resolve_right fun hb => hji (hb listed hc hj i hr (by simp only [memI, hi]; exact hmem)).symm, q⟩
      obtain ⟨hjun, oj, hoj, hall⟩ := mem_ready.1 hj
      have hnot : ∀ e ∈ oj.after, Region.binds .any e = true → e.on ≠ i := fun e he hb heq => by
        have h1 := hall e he hb
        rw [heq] at h1
        exact getD_tf (mem_ready.1 hr).1 h1
      have h2 := OpI.put hoj (hfree j oj hoj hji hjun hnot) (fun cs b => hsel i oi cs b hi) (fun cs b => hsel j oj cs b hoj) hy h1'
      have hfree' : ∀ k ok, ops[k]? = some ok → k ≠ i → (listed.setIfInBounds j true).getD k true = false →
          (∀ e ∈ ok.after, Region.binds .any e = true → e.on ≠ i) → oi.apart ops ok = true := fun k ok hk hki hun hno => by
        refine hfree k ok hk hki ?_ hno
        by_cases hjk : j = k
        · subst hjk; exact hjun
        · rw [getD_set_ne true hjk] at hun; exact hun
      refine h2.mono fun a' w' ⟨x, hy', h3⟩ => ⟨.inl x, ih (listed.setIfInBounds j true) a' w' (hc.set hj) hfree' (ready_mono hr (Ne.symm hji)) hmem hy' ?_⟩
      rw [Array.setIfInBounds_comm _ _ hji]
      exact h3

theorem OpI.putU {P : Program} {ops : Array Oper} {j : Nat} {oi oj : Oper} {v : Value} (hj : ops[j]? = some oj) (hap : oi.apart ops oj = true)
    (hsi : ∀ cs b, oi.op ≠ .select cs b) (hsj : ∀ cs b, oj.op ≠ .select cs b) {K : Act → World → Prop} {a : Act} {w : World}
    (hy : Yields P ops oi v a) (h : OpI P ops j (a.put oi.dst v) w K) : OpI P ops j a w fun a' w' => Yields P ops oi v a' ∧ K (a'.put oi.dst v) w' := by
  obtain ⟨h1, h2, h3⟩ := Oper.apart_spec hap
  have keep : ∀ (u : Value), Yields P ops oi v (a.put oj.dst u) := fun u => hy.of_same (execOp_put oi hsi a oj.dst u h3) (wanted_put oi a oj.dst u h3)
  unfold OpI at *
  simp only [hj] at *
  rw [wanted_put oj a oi.dst v h1] at h
  split
  · rename_i hw
    rw [if_pos hw] at h
    unfold OpR at *
    rw [execOp_put oj hsj a oi.dst v h1] at h
    generalize (execOp a.eval oj).run P w = r at *
    cases r with
    | halt x w' => exact h
    | ok n w' =>
      cases n <;> first
        | exact h
        | exact ⟨keep _, by rw [← Act.put_comm a v _ h2]; exact h⟩
        | exact Calls.mono h fun e w'' ⟨u, e1, k⟩ => ⟨u, e1, keep _, by rw [← Act.put_comm a v u h2]; exact k⟩
  · rename_i hw
    rw [if_neg hw] at h
    exact ⟨keep _, by rw [← Act.put_comm a v undef h2]; exact h⟩
theorem yieldsU_opI {P : Program} {ops : Array Oper} {i : Nat} {o : Oper} {v : Value} {a : Act} {w : World} {K : Act → World → Prop} (hi : ops[i]? = some o) (hy : Yields P ops o v a) (h : K (a.put o.dst v) w) : OpI P ops i a w K := by
  unfold OpI
  simp only [hi]
  rcases hy with ⟨hw, hv⟩ | ⟨hw, rfl⟩
  · rw [if_pos hw]; unfold OpR; rw [hv w]; exact h
  · rw [if_neg (by rw [hw]; simp)]; exact h
/-- what does not look at memory may be taken first -/
theorem AnyX.firstU {P : Program} {ops : Array Oper} {Q : Exit → Act → World → Prop} {i : Nat} {oi : Oper} {v : Value} (hi : ops[i]? = some oi) (hsel : ∀ (j : Nat) (o : Oper) cs b, ops[j]? = some o → o.op ≠ .select cs b) :
    ∀ (fuel : Nat) (listed : Array Bool) (a : Act) (w : World),
      (∀ j oj, ops[j]? = some oj → j ≠ i → listed.getD j true = false → (∀ e ∈ oj.after, Region.binds .any e = true → e.on ≠ i) → oi.apart ops oj = true) →
      i ∈ Region.ready .any ops listed → Yields P ops oi v a →
      AnyX P ops Q fuel (listed.setIfInBounds i true) (a.put oi.dst v) w → AnyX P ops Q (fuel + 1) listed a w := by
  intro fuel
  induction fuel with
  | zero =>
    intro listed a w _ hr hy H
    refine ⟨fun h => (by rw [h] at hr; cases hr), fun j hj => ?_⟩
    by_cases hji : j = i
    · subst hji; exact yieldsU_opI hi hy ⟨.inl (Ext.refl w), H⟩
    · have := ready_mono hj hji
      rw [H.1] at this
      cases this
  | succ fuel ih =>
    intro listed a w hfree hr hy H
    refine ⟨fun h => (by rw [h] at hr; cases hr), fun j hj => ?_⟩
    by_cases hji : j = i
    · subst hji; exact yieldsU_opI hi hy ⟨.inl (Ext.refl w), H⟩
    · have h1 := H.2 j (ready_mono hj hji)
      obtain ⟨hjun, oj, hoj, hall⟩ := mem_ready.1 hj
      have hnot : ∀ e ∈ oj.after, Region.binds .any e = true → e.on ≠ i := fun e he hb heq => by
        have h1 := hall e he hb
        rw [heq] at h1
        exact getD_tf (mem_ready.1 hr).1 h1
      have h2 := OpI.putU hoj (hfree j oj hoj hji hjun hnot) (fun cs b => hsel i oi cs b hi) (fun cs b => hsel j oj cs b hoj) hy h1
      have hfree' : ∀ k ok, ops[k]? = some ok → k ≠ i → (listed.setIfInBounds j true).getD k true = false →
          (∀ e ∈ ok.after, Region.binds .any e = true → e.on ≠ i) → oi.apart ops ok = true := fun k ok hk hki hun hno => by
        refine hfree k ok hk hki ?_ hno
        by_cases hjk : j = k
        · subst hjk; exact hjun
        · rw [getD_set_ne true hjk] at hun; exact hun
      refine h2.mono fun a' w' ⟨hy', x, h3⟩ => ⟨x, ih (listed.setIfInBounds j true) a' w' hfree' (ready_mono hr (Ne.symm hji)) hy' ?_⟩
      rw [Array.setIfInBounds_comm _ _ hji]
      exact h3

/-- what is left of a region, in whatever order -/
def AB (P : Program) (n : Nat) (ops : Array Oper) (k : Nat) (listed : Array Bool) (f : Fr) (E : Env) (H : List HProp) (K : Kont) : Prop :=
  Closed ops listed → ∀ w a, Rel n f a.tmps → a.defers = [] → St E H w → AnyX P ops (Post n E K) k listed a w
/-- may i be taken first? -/
def firstB (ops : Array Oper) (listed : Array Bool) (i : Nat) : Bool := Region.noSelect ops && (Region.ready .any ops listed).contains i && Region.free .any ops listed i
def onlyB (ops : Array Oper) (listed : Array Bool) (i : Nat) : Bool := Region.ready .any ops listed == [i]
section
variable {P : Program} {n : Nat} {f : Fr} {E : Env} {H : List HProp} {K : Kont} {ops : Array Oper} {k : Nat} {listed : Array Bool}
theorem Closed.none (ops : Array Oper) (m : Nat) : Closed ops (Array.replicate m false) := fun j oj _ hl => by
  have : (Array.replicate m false).getD j false = false := by
    rcases Nat.lt_or_ge j m with h | h <;> simp [h]
  rw [this] at hl; cases hl
theorem Body.draw {id : Nat} {l : List Oper} (hm : P.follows .mixedOrders = true) (h : AB P n l.toArray l.length (Array.replicate l.length false) f E H K) : Body P n (.region id l.toArray true) f E H K := fun w a r d s =>
  wp_region_any hm (AnyX.wpAny _ _ _ _ (by
    have := h (Closed.none _ _) { w with drawn := w.drawn + 1 } a r d (s.ext ⟨Hp.Le.refl _, rfl, rfl, rfl⟩)
    simpa using this))
theorem AB.done (hr : (Region.ready .any ops listed).isEmpty = true) (h : K .norm f H) : AB P n ops k listed f E H K := fun _ w a r d s => by
  have hr' : Region.ready .any ops listed = [] := by simpa using hr
  cases k with
  | zero => exact ⟨hr', d, f, H, r, h, s⟩
  | succ k => exact ⟨fun _ => ⟨d, f, H, r, h, s⟩, fun i hi => by rw [hr'] at hi; cases hi⟩
theorem AB.first (i : Nat) {o : Oper} {v : Value} (hi : ops[i]? = some o) (hB : firstB ops listed i = true) (hmem : memB o = true) (hg : o.guard = none) (hd : okD n o.dst = true) (h : Det P n f E H o v)
    (hk : AB P n ops k (listed.setIfInBounds i true) (updO f o.dst v) E H K) : AB P n ops (k + 1) listed f E H K := fun hc w a r d s => by
  simp only [firstB, Bool.and_eq_true] at hB
  have hr : i ∈ Region.ready .any ops listed := by simpa using hB.1.2
  exact AnyX.first hi (Region.noSelect_spec hB.1.1) k listed a w hc (Region.free_spec hi hB.2) hr hmem (.inl ⟨wanted_none hg _, fun w' x => h w' a r (s.ext x)⟩)
    (hk (hc.set hr) w _ (r.put hd v) ((put_defers _ _ _).trans d) s)
theorem AB.firstYes (i : Nat) {o : Oper} {v : Value} {j t : Nat} {b : Bool} (hi : ops[i]? = some o) (hB : firstB ops listed i = true) (hmem : memB o = true) (hg : o.guard = some (j, b)) (hj : guardSlot ops j = some t) (ht : Nat.blt t n = true)
    (hb : f t = .bool b) (hd : okD n o.dst = true) (h : Det P n f E H o v) (hk : AB P n ops k (listed.setIfInBounds i true) (updO f o.dst v) E H K) : AB P n ops (k + 1) listed f E H K := fun hc w a r d s => by
  simp only [firstB, Bool.and_eq_true] at hB
  have hr : i ∈ Region.ready .any ops listed := by simpa using hB.1.2
  exact AnyX.first hi (Region.noSelect_spec hB.1.1) k listed a w hc (Region.free_spec hi hB.2) hr hmem (.inl ⟨by simp only [Region.wanted, hg, yielded_rel r hj ht hb]; simp, fun w' x => h w' a r (s.ext x)⟩)
    (hk (hc.set hr) w _ (r.put hd v) ((put_defers _ _ _).trans d) s)
theorem AB.firstNo (i : Nat) {o : Oper} {j t : Nat} {b : Bool} (hi : ops[i]? = some o) (hB : firstB ops listed i = true) (hg : o.guard = some (j, b)) (hj : guardSlot ops j = some t) (ht : Nat.blt t n = true)
    (hne : isB (f t) b = false) (hd : okD n o.dst = true) (hk : AB P n ops k (listed.setIfInBounds i true) (updO f o.dst undef) E H K) : AB P n ops (k + 1) listed f E H K := fun hc w a r d s => by
  simp only [firstB, Bool.and_eq_true] at hB
  have hr : i ∈ Region.ready .any ops listed := by simpa using hB.1.2
  exact AnyX.firstU hi (Region.noSelect_spec hB.1.1) k listed a w (Region.free_spec hi hB.2) hr (.inr ⟨wanted_rel r hg hj ht hne, rfl⟩)
    (hk (hc.set hr) w _ (r.put hd undef) ((put_defers _ _ _).trans d) s)
theorem AB.firstU (i : Nat) {o : Oper} {v : Value} (hi : ops[i]? = some o) (hB : firstB ops listed i = true) (hg : o.guard = none) (hd : okD n o.dst = true) (h : Dtu P n f E H o v)
    (hk : AB P n ops k (listed.setIfInBounds i true) (updO f o.dst v) E H K) : AB P n ops (k + 1) listed f E H K := fun hc w a r d s => by
  simp only [firstB, Bool.and_eq_true] at hB
  have hr : i ∈ Region.ready .any ops listed := by simpa using hB.1.2
  exact AnyX.firstU hi (Region.noSelect_spec hB.1.1) k listed a w (Region.free_spec hi hB.2) hr (.inl ⟨wanted_none hg _, fun w' => h w s w' a r⟩)
    (hk (hc.set hr) w _ (r.put hd v) ((put_defers _ _ _).trans d) s)
theorem AB.firstYesU (i : Nat) {o : Oper} {v : Value} {j t : Nat} {b : Bool} (hi : ops[i]? = some o) (hB : firstB ops listed i = true) (hg : o.guard = some (j, b)) (hj : guardSlot ops j = some t) (ht : Nat.blt t n = true)
    (hb : f t = .bool b) (hd : okD n o.dst = true) (h : Dtu P n f E H o v) (hk : AB P n ops k (listed.setIfInBounds i true) (updO f o.dst v) E H K) : AB P n ops (k + 1) listed f E H K := fun hc w a r d s => by
  simp only [firstB, Bool.and_eq_true] at hB
  have hr : i ∈ Region.ready .any ops listed := by simpa using hB.1.2
  exact AnyX.firstU hi (Region.noSelect_spec hB.1.1) k listed a w (Region.free_spec hi hB.2) hr (.inl ⟨by simp only [Region.wanted, hg, yielded_rel r hj ht hb]; simp, fun w' => h w s w' a r⟩)
    (hk (hc.set hr) w _ (r.put hd v) ((put_defers _ _ _).trans d) s)
/-- the only one that may come up -/
theorem AB.only {q : Bool} (i : Nat) {o : Oper} (hi : ops[i]? = some o) (hB : onlyB ops listed i = true) (hq : (q || barB ops i) = true) (hg : o.guard = none) (hd : okD n o.dst = true)
    (h : Stp q P n f E H o fun v H' => AB P n ops k (listed.setIfInBounds i true) (updO f o.dst v) E H' K) : AB P n ops (k + 1) listed f E H K := fun hc w a r d s => by
  have hr : Region.ready .any ops listed = [i] := by simpa [onlyB] using hB
  refine ⟨fun e => (by rw [hr] at e; cases e), fun j hj => ?_⟩
  have hmem : i ∈ Region.ready .any ops listed := by rw [hr]; simp
  rw [hr] at hj
  obtain rfl : j = i := by simpa using hj
  unfold OpI
  simp only [hi]
  rw [if_pos (wanted_none hg _)]
  refine (h w a r s).mono ?_
  rintro v w' ⟨x, H', kk, s'⟩
  refine ⟨?_, kk (hc.set hmem) w' _ (r.put hd v) ((put_defers _ _ _).trans d) s'⟩
  cases q with
  | true => exact .inl (x rfl)
  | false => exact .inr (bar_of (by simpa using hq))
/-- the only one that may come up, its guard met -/
theorem AB.onlyG {q : Bool} (i : Nat) {o : Oper} {j t : Nat} {b : Bool} (hi : ops[i]? = some o) (hB : onlyB ops listed i = true) (hq : (q || barB ops i) = true) (hg : o.guard = some (j, b)) (hj : guardSlot ops j = some t) (ht : Nat.blt t n = true) (hb : f t = .bool b) (hd : okD n o.dst = true)
    (h : Stp q P n f E H o fun v H' => AB P n ops k (listed.setIfInBounds i true) (updO f o.dst v) E H' K) : AB P n ops (k + 1) listed f E H K := fun hc w a r d s => by
  have hr : Region.ready .any ops listed = [i] := by simpa [onlyB] using hB
  refine ⟨fun e => (by rw [hr] at e; cases e), fun j' hj' => ?_⟩
  have hmem : i ∈ Region.ready .any ops listed := by rw [hr]; simp
  rw [hr] at hj'
  obtain rfl : j' = i := by simpa using hj'
  unfold OpI
  simp only [hi]
  rw [if_pos (by simp only [Region.wanted, hg, yielded_rel r hj ht hb]; simp)]
  refine (h w a r s).mono ?_
  rintro v w' ⟨x, H', kk, s'⟩
  refine ⟨?_, kk (hc.set hmem) w' _ (r.put hd v) ((put_defers _ _ _).trans d) s'⟩
  cases q with
  | true => exact .inl (x rfl)
  | false => exact .inr (bar_of (by simpa using hq))
/-- each that may come up -/
theorem AB.two {q1 q2 : Bool} (i j : Nat) {o p : Oper} (hi : ops[i]? = some o) (hj : ops[j]? = some p) (hB : (Region.ready .any ops listed == [i, j]) = true) (hq : (q1 || barB ops i) = true) (hq2 : (q2 || barB ops j) = true)
    (hg : o.guard = none) (hg2 : p.guard = none) (hd : okD n o.dst = true) (hd2 : okD n p.dst = true)
    (h : Stp q1 P n f E H o fun v H' => AB P n ops k (listed.setIfInBounds i true) (updO f o.dst v) E H' K)
    (h2 : Stp q2 P n f E H p fun v H' => AB P n ops k (listed.setIfInBounds j true) (updO f p.dst v) E H' K) : AB P n ops (k + 1) listed f E H K := fun hc w a r d s => by
  have hr : Region.ready .any ops listed = [i, j] := by simpa using hB
  refine ⟨fun e => (by rw [hr] at e; cases e), fun m hm => ?_⟩
  have hmem : m ∈ Region.ready .any ops listed := hm
  rw [hr] at hm
  have hm' : m = i ∨ m = j := by simpa using hm
  rcases hm' with rfl | rfl
  · unfold OpI
    simp only [hi]
    rw [if_pos (wanted_none hg _)]
    refine (h w a r s).mono ?_
    rintro v w' ⟨x, H', kk, s'⟩
    refine ⟨?_, kk (hc.set hmem) w' _ (r.put hd v) ((put_defers _ _ _).trans d) s'⟩
    cases q1 with
    | true => exact .inl (x rfl)
    | false => exact .inr (bar_of (by simpa using hq))
  · unfold OpI
    simp only [hj]
    rw [if_pos (wanted_none hg2 _)]
    refine (h2 w a r s).mono ?_
    rintro v w' ⟨x, H', kk, s'⟩
    refine ⟨?_, kk (hc.set hmem) w' _ (r.put hd2 v) ((put_defers _ _ _).trans d) s'⟩
    cases q2 with
    | true => exact .inl (x rfl)
    | false => exact .inr (bar_of (by simpa using hq2))
theorem AB.split {b : Bool} (h1 : b = true → AB P n ops k listed f E H K) (h2 : b = false → AB P n ops k listed f E H K) : AB P n ops k listed f E H K := by
  cases b
  · exact h2 rfl
  · exact h1 rfl
end
end Go.Sx
