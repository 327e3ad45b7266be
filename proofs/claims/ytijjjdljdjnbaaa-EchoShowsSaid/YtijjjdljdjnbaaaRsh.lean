/- Qk: SxC, SxD, RegA, RegB, RegC, RegD, RegE, RegF, RegG, RegH, RegI, OpenJ. -/
import Derived.Lib.ConvBytes
import Derived.Lib.LazyBuf
import Derived.Test.YtijjjdljdjnbaaaRsa
import Derived.Test.YtijjjdljdjnbaaaRsb
import Derived.Test.YtijjjdljdjnbaaaRsc
import Derived.Test.YtijjjdljdjnbaaaRsd
import Derived.Test.YtijjjdljdjnbaaaRse
import Derived.Test.YtijjjdljdjnbaaaRsf
import Derived.Test.YtijjjdljdjnbaaaRsg
section
/- My own logic of ownership over the model, part C: texts as bytes; functions that hold variables. -/
namespace Go.Sx
open Go
set_option linter.unusedVariables false
/-- an owned slice that is only read -/
def rsl (sz : Nat) (v : Value) (m : Nat) (vs : List Value) : HProp := fun h =>
  ∃ (b cap : Nat) (c : Array Value) (t : TypeId) (p : Nat × Nat), v = .slice (some ⟨b, 0, none⟩) m cap ∧ vs.length = m * sz ∧ m ≤ cap ∧ cap ≤ maxLen ∧ (∀ (j : Nat) (u : Value), vs[j]? = some u → c[j]? = some u) ∧ h = Hp.one b (.cells c t p)
theorem Sl.rsl {E : Env} {H : List HProp} (i : Nat) {sz m : Nat} {v : Value} {vs : List Value} (hi : H[i]? = some (Sx.rsl sz v m vs)) : Sl E H sz v m vs := fun w s => by
  obtain ⟨h, ⟨h1, h2, ⟨b, cap, c, t, p, rfl, e2, e3, e4, e5, rfl⟩, _, d, rfl⟩, _, l⟩ := (s.get hi).has
  have hb : w.heap[b]? = some (.cells c t p) := ((Hp.le_union_left _ _).trans l) b _ (by simp [Hp.one])
  refine ⟨e2, Nat.le_trans e3 e4, .inr ⟨cap, rfl, e3, e4, fun j u hj => ?_⟩⟩
  have := e5 j u hj
  simp [World.cell?, offOf, blkOf, hb, this]
theorem Sl.atR {E : Env} {sz m : Nat} {v : Value} {vs : List Value} (h : At (Sx.rsl sz v m vs) E) : Sl E [] sz v m vs := fun w s => by
  obtain ⟨x, ⟨b, cap, c, t, p, rfl, e2, e3, e4, e5, rfl⟩, le⟩ := h
  have hb : w.heap[b]? = some (.cells c t p) := (le.trans s.keep) b _ (by simp [Hp.one])
  refine ⟨e2, Nat.le_trans e3 e4, .inr ⟨cap, rfl, e3, e4, fun j u hj => ?_⟩⟩
  have := e5 j u hj
  simp [World.cell?, offOf, blkOf, hb, this]
/-- an object more -/
theorem St.more {E : Env} {H : List HProp} {w w' : World} (s : St E H w) (o : Obj) (A : HProp) (hA : A (Hp.one w.heap.size o)) (hold : ∀ j, j < w.heap.size → w'.heap[j]? = w.heap[j]?) (hnew : w'.heap[w.heap.size]? = some o) (hos : w'.os = w.os) (htape : w'.tape = w.tape) (hout : w'.output = w.output) :
    St E (A :: H) w' ∧ Ext w w' := by
  have hn : hpOf w w.heap.size = none := by simp [hpOf]
  have hle : (hpOf w).Le (hpOf w') := by
    intro n o' h
    have hlt : n < w.heap.size := by
      have : w.heap[n]? = some o' := h
      exact (Array.getElem?_eq_some_iff.1 this).1
    show w'.heap[n]? = some o'
    rw [hold n hlt]; exact h
  obtain ⟨h, a, dE, l⟩ := s.has
  have dn : ∀ x : Hp, x.Le (hpOf w) → (Hp.one w.heap.size o).Disj x := fun x lx => Hp.one_disj (by
    cases hx : x w.heap.size with
    | none => rfl
    | some o => have := lx _ _ hx; rw [hn] at this; cases this)
  refine ⟨⟨⟨(Hp.one w.heap.size o).union h, ⟨_, h, hA, a, dn h l, rfl⟩, Hp.Disj.union_right (dn _ s.keep).symm dE, Hp.union_le (Hp.one_le hnew) (l.trans hle)⟩,
    s.keep.trans hle, hos.trans s.os, htape.trans s.tape, hout.trans s.output⟩, ⟨hle, hos, htape, hout⟩⟩
/-- a text's bytes -/
def numsOf (s : ByteArray) : List Int := s.data.toList.map fun b => (b.toNat : Int)
theorem numsOf_len (s : ByteArray) : (numsOf s).length = s.size := by simp [numsOf]
theorem numsOf_byt (s : ByteArray) : ∀ i, i < (numsOf s).length → 0 ≤ (numsOf s)[i]! ∧ (numsOf s)[i]! < 256 := fun i hi => by
  rw [getElem!_pos _ i hi]
  simp only [numsOf, List.getElem_map]
  have := UInt8.toNat_lt (s.data.toList[i]'(by simpa [numsOf] using hi))
  omega
section
variable {P : Program} {n : Nat} {f : Fr} {E : Env} {H : List HProp} {d : Option Nat} {ty : TypeId} {pos : String} {aft : Array Edge} {g : Option (Nat × Bool)} {x y z : Operand} {K : Value → List HProp → Prop}
end
end Go.Sx
end
section
/- My own logic of ownership over the model, part D: open order where reads and stores may change places. -/
namespace Go.Sx
open Go
set_option linter.unusedVariables false
def AnyW (P : Program) (ops : Array Oper) (Q : Exit → Act → World → Prop) : Nat → Array Bool → Act → World → Prop
  | 0, listed, a, w => Region.ready .any ops listed = [] ∧ Q .normal a w
  | k + 1, listed, a, w => (Region.ready .any ops listed = [] → Q .normal a w) ∧
    ∀ i ∈ Region.ready .any ops listed, OpI P ops i a w fun a' w' => AnyW P ops Q k (listed.setIfInBounds i true) a' w'
theorem AnyW.wpAny {P : Program} {ops : Array Oper} {Q : Exit → Act → World → Prop} : ∀ (k : Nat) (listed : Array Bool) (a : Act) (w : World), AnyW P ops Q k listed a w → Go.wpAny P .any ops Q k listed a w
  | 0, _, _, _, h => h
  | k + 1, _, _, _, h => ⟨h.1, fun i hi => ((h.2 i hi).mono fun _ _ q => AnyW.wpAny k _ _ _ q).wpOp⟩
theorem AnyW.firstU {P : Program} {ops : Array Oper} {Q : Exit → Act → World → Prop} {i : Nat} {oi : Oper} {v : Value} (hi : ops[i]? = some oi) (hsel : ∀ (j : Nat) (o : Oper) cs b, ops[j]? = some o → o.op ≠ .select cs b) :
    ∀ (fuel : Nat) (listed : Array Bool) (a : Act) (w : World),
      (∀ j oj, ops[j]? = some oj → j ≠ i → listed.getD j true = false → (∀ e ∈ oj.after, Region.binds .any e = true → e.on ≠ i) → oi.apart ops oj = true) →
      i ∈ Region.ready .any ops listed → Yields P ops oi v a →
      AnyW P ops Q fuel (listed.setIfInBounds i true) (a.put oi.dst v) w → AnyW P ops Q (fuel + 1) listed a w := by
  intro fuel
  induction fuel with
  | zero =>
    intro listed a w _ hr hy H
    refine ⟨fun h => (by rw [h] at hr; cases hr), fun j hj => ?_⟩
    by_cases hji : j = i
    · subst hji; exact yieldsU_opI hi hy H
    · have := ready_mono hj hji
      rw [H.1] at this
      cases this
  | succ fuel ih =>
    intro listed a w hfree hr hy H
    refine ⟨fun h => (by rw [h] at hr; cases hr), fun j hj => ?_⟩
    by_cases hji : j = i
    · subst hji; exact yieldsU_opI hi hy H
    · have h1 := H.2 j (ready_mono hj hji)
      obtain ⟨hjun, oj, hoj, hall⟩ := mem_ready.1 hj
      have hnot : ∀ e ∈ oj.after, Region.binds .any e = true → e.on ≠ i := fun e he hb heq => by
        have h1 := hall e he hb
        rw [heq] at h1
        exact getD_tf (mem_ready.1 hr).1 h1
      have h2 := OpI.putU hoj (hfree j oj hoj hji hjun hnot) (fun cs b => hsel i oi cs b hi) (fun cs b => hsel j oj cs b hoj) hy h1
      have hfree' : ∀ k ok, ops[k]? = some ok → k ≠ i → (listed.setIfInBounds j true).getD k true = false →
          (∀ e ∈ ok.after, Region.binds .any e = true → e.on ≠ i) → oi.apart ops ok = true := fun k ok hk hki hun hno => by
        refine hfree k ok hk hki ?_ hno
        by_cases hjk : j = k
        · subst hjk; exact hjun
        · rw [getD_set_ne true hjk] at hun; exact hun
      refine h2.mono fun a' w' ⟨hy', h3⟩ => ih (listed.setIfInBounds j true) a' w' hfree' (ready_mono hr (Ne.symm hji)) hy' ?_
      rw [Array.setIfInBounds_comm _ _ hji]
      exact h3
/-- what is left of a region, in whatever order -/
def AW (P : Program) (n : Nat) (ops : Array Oper) (k : Nat) (listed : Array Bool) (f : Fr) (E : Env) (H : List HProp) (K : Kont) : Prop :=
  ∀ w a, Rel n f a.tmps → a.defers = [] → St E H w → AnyW P ops (Post n E K) k listed a w
section
variable {P : Program} {n : Nat} {f : Fr} {E : Env} {H : List HProp} {K : Kont} {ops : Array Oper} {k : Nat} {listed : Array Bool} {F : List Ent} {dd : Nat} {op : Op} {ty : TypeId} {pos : String} {aft : Array Edge} {v : Value}
theorem Body.drawW {id : Nat} {l : List Oper} (hm : P.follows .mixedOrders = true) (h : AW P n l.toArray l.length (Array.replicate l.length false) f E H K) : Body P n (.region id l.toArray true) f E H K := fun w a r d s =>
  wp_region_any hm (AnyW.wpAny _ _ _ _ (by
    have := h { w with drawn := w.drawn + 1 } a r d (s.ext ⟨Hp.Le.refl _, rfl, rfl, rfl⟩)
    simpa using this))
theorem AW.done (hr : (Region.ready .any ops listed).isEmpty = true) (h : K .norm f H) : AW P n ops k listed f E H K := fun w a r d s => by
  have hr' : Region.ready .any ops listed = [] := by simpa using hr
  cases k with
  | zero => exact ⟨hr', d, f, H, r, h, s⟩
  | succ k => exact ⟨fun _ => ⟨d, f, H, r, h, s⟩, fun i hi => by rw [hr'] at hi; cases hi⟩
theorem AW.firstU (i : Nat) {o : Oper} {v : Value} (hi : ops[i]? = some o) (hB : firstB ops listed i = true) (hg : o.guard = none) (hd : okD n o.dst = true) (h : Dtu P n f E H o v)
    (hk : AW P n ops k (listed.setIfInBounds i true) (updO f o.dst v) E H K) : AW P n ops (k + 1) listed f E H K := fun w a r d s => by
  simp only [firstB, Bool.and_eq_true] at hB
  have hr : i ∈ Region.ready .any ops listed := by simpa using hB.1.2
  exact AnyW.firstU hi (Region.noSelect_spec hB.1.1) k listed a w (Region.free_spec hi hB.2) hr (.inl ⟨wanted_none hg _, fun w' => h w s w' a r⟩)
    (hk w _ (r.put hd v) ((put_defers _ _ _).trans d) s)
theorem AW.u (i : Nat) (hi : ops[i]? = some ⟨some dd, op, ty, pos, aft, none⟩) (hB : firstB ops listed i = true) (h : Dtu P n (fr F) E H ⟨some dd, op, ty, pos, aft, none⟩ v) (hd : Nat.blt dd n = true)
    (hk : AW P n ops k (listed.setIfInBounds i true) (fr (.set dd v :: F)) E H K) : AW P n ops (k + 1) listed (fr F) E H K := AW.firstU i hi hB rfl hd h hk
/-- i comes up next -/
def AWI (P : Program) (n : Nat) (ops : Array Oper) (k : Nat) (listed : Array Bool) (f : Fr) (E : Env) (H : List HProp) (K : Kont) (i : Nat) : Prop :=
  ∀ w a, Rel n f a.tmps → a.defers = [] → St E H w → OpI P ops i a w fun a' w' => AnyW P ops (Post n E K) k (listed.setIfInBounds i true) a' w'
/-- each of these may come up next -/
def AWs (P : Program) (n : Nat) (ops : Array Oper) (k : Nat) (listed : Array Bool) (f : Fr) (E : Env) (H : List HProp) (K : Kont) : List Nat → Prop
  | [] => True
  | i :: r => AWI P n ops k listed f E H K i ∧ AWs P n ops k listed f E H K r
theorem AWs.get : ∀ {is : List Nat} {i : Nat}, AWs P n ops k listed f E H K is → i ∈ is → AWI P n ops k listed f E H K i
  | _ :: _, _, h, .head _ => h.1
  | _ :: _, _, h, .tail _ m => AWs.get h.2 m
theorem AW.more (is : List Nat) (hB : (Region.ready .any ops listed == is) = true) (hne : is.isEmpty = false) (h : AWs P n ops k listed f E H K is) : AW P n ops (k + 1) listed f E H K := fun w a r d s => by
  have hr : Region.ready .any ops listed = is := by simpa using hB
  refine ⟨fun e => ?_, fun j hj => ?_⟩
  · rw [hr] at e; rw [e] at hne; simp at hne
  · exact AWs.get h (hr ▸ hj) w a r d s
theorem AWI.mk {q : Bool} {i : Nat} {o : Oper} (hi : ops[i]? = some o) (hg : o.guard = none) (hd : okD n o.dst = true)
    (h : Stp q P n f E H o fun v H' => AW P n ops k (listed.setIfInBounds i true) (updO f o.dst v) E H' K) : AWI P n ops k listed f E H K i := fun w a r d s => by
  unfold OpI
  simp only [hi]
  rw [if_pos (wanted_none hg _)]
  refine (h w a r s).mono ?_
  rintro v w' ⟨x, H', kk, s'⟩
  exact kk w' _ (r.put hd v) ((put_defers _ _ _).trans d) s'
theorem AWI.d {i : Nat} (hi : ops[i]? = some ⟨some dd, op, ty, pos, aft, none⟩) (h : Det P n (fr F) E H ⟨some dd, op, ty, pos, aft, none⟩ v) (hd : Nat.blt dd n = true)
    (hk : AW P n ops k (listed.setIfInBounds i true) (fr (.set dd v :: F)) E H K) : AWI P n ops k listed (fr F) E H K i := AWI.mk hi rfl hd (Det.stp h hk)
theorem AWI.e {q : Bool} {i : Nat} (hi : ops[i]? = some ⟨none, op, ty, pos, aft, none⟩)
    (h : Stp q P n (fr F) E H ⟨none, op, ty, pos, aft, none⟩ fun _ H' => AW P n ops k (listed.setIfInBounds i true) (fr F) E H' K) : AWI P n ops k listed (fr F) E H K i := AWI.mk hi rfl rfl h
end
end Go.Sx
end
section
/- States: which may be; which are the same. -/
namespace Go.Proofs.Ytijjjdljdjnbaaa
set_option maxRecDepth 100000
set_option linter.unusedVariables false
set_option linter.unusedSimpArgs false
open Go.Sx

structure Stt where
  v : View
  title : ByteArray
  clip : ByteArray
  clips : Int
  bells : Int
def Stt.cells (x : Stt) (s : Value) : List Value := [.int .i64 x.v.rows, .int .i64 x.v.cols, s, .int .i64 x.v.row, .int .i64 x.v.col, .bool x.v.vis, .string x.title, .string x.clip, .int .u64 x.clips, .int .u64 x.bells]
def Stt.val (x : Stt) (s : Value) : Value := .agg (x.cells s).toArray
def Stt.ok (x : Stt) : Bool := x.v.ok && decide (x.title.size ≤ 64 ∧ x.clip.size ≤ 256 ∧ x.clips ≤ 4611686018427387903 ∧ x.bells ≤ 4611686018427387903)
theorem sright_ok (E : Env) (x : Stt) (s : Value) (h : x.v.has E [] s) : Does Try.prog 42 #[x.val s] E [] fun r H' => r = .bool x.ok ∧ H' = [] := by
  unfold View.has at h
  refine Does.pure h.isSl fun hs => ?_
  obtain ⟨sa, sm, sc, rfl⟩ := hs
  refine Does.go (args := [x.val _]) _ _ Try.func42 rfl Try.ntmps42 rfl rfl ?_
  refine Body.seq ?_
  refine Body.region ?_
  refine Ops.s (Stp.box (lk rfl) rfl (fun b1 => ?_)) rfl
  refine Ops.u (Dtu.asg (lk rfl)) rfl ?_
  refine Ops.nil ?_
  refine Then.next ?_
  refine Body.seq ?_
  refine Body.region ?_
  refine Ops.u (Dtu.fld fa77_0 (lk rfl)) rfl ?_
  refine Ops.d (Det.lda Try.isAgg24 Try.sizeOf24 (lk rfl) (Rds.ow (m := 6) 0 rfl rfl) rfl) rfl ?_
  refine Ops.s (Stp.call rfl Try.call25 (lks rfl) (fun E' le hat => right_ok E' ⟨_, _, _, _, _, _⟩ _ (Sl.mono (by assumption) le)) ?_) rfl
  rintro _ _ ⟨rfl, rfl⟩
  refine Ops.u (Dtu.mv (lk rfl)) rfl ?_
  refine Ops.dec 6 rfl (fun c6 => ?_) (fun c6 => ?_)
  · refine Ops.gu rfl rfl rfl (Dtu.fld fa77_1 (lk rfl)) rfl ?_
    refine Ops.gd rfl rfl rfl (Det.ld Try.isAgg9 (lk rfl) (Rd.ow 0 rfl rfl)) rfl ?_
    refine Ops.gu rfl rfl rfl (Dtu.lenStr Try.underlying9 (lk rfl)) rfl ?_
    refine Ops.gu rfl rfl rfl (Dtu.leq (lk rfl) (lk rfl)) rfl ?_
    refine Ops.u (Dtu.pickT (lk rfl) (lk rfl)) rfl ?_
    refine Ops.u (Dtu.mv (lk rfl)) rfl ?_
    refine Ops.decP 12 rfl (fun c12 => ?_) (fun c12 => ?_)
    · refine Ops.gu rfl rfl rfl (Dtu.fld fa77_2 (lk rfl)) rfl ?_
      refine Ops.gd rfl rfl rfl (Det.ld Try.isAgg9 (lk rfl) (Rd.ow 0 rfl rfl)) rfl ?_
      refine Ops.gu rfl rfl rfl (Dtu.lenStr Try.underlying9 (lk rfl)) rfl ?_
      refine Ops.gu rfl rfl rfl (Dtu.leq (lk rfl) (lk rfl)) rfl ?_
      refine Ops.u (Dtu.pickT (lk rfl) (lk rfl)) rfl ?_
      refine Ops.u (Dtu.mv (lk rfl)) rfl ?_
      refine Ops.decP 18 rfl (fun c18 => ?_) (fun c18 => ?_)
      · refine Ops.gu rfl rfl rfl (Dtu.fld fa77_3 (lk rfl)) rfl ?_
        refine Ops.gd rfl rfl rfl (Det.ld Try.isAgg75 (lk rfl) (Rd.ow 0 rfl rfl)) rfl ?_
        refine Ops.gu rfl rfl rfl (Dtu.leq (lk rfl) (lk rfl)) rfl ?_
        refine Ops.u (Dtu.pickT (lk rfl) (lk rfl)) rfl ?_
        refine Ops.u (Dtu.mv (lk rfl)) rfl ?_
        refine Ops.decP 23 rfl (fun c23 => ?_) (fun c23 => ?_)
        · refine Ops.gu rfl rfl rfl (Dtu.fld fa77_4 (lk rfl)) rfl ?_
          refine Ops.gd rfl rfl rfl (Det.ld Try.isAgg75 (lk rfl) (Rd.ow 0 rfl rfl)) rfl ?_
          refine Ops.gu rfl rfl rfl (Dtu.leq (lk rfl) (lk rfl)) rfl ?_
          refine Ops.u (Dtu.pickT (lk rfl) (lk rfl)) rfl ?_
          refine Ops.u (Dtu.asg (lk rfl)) rfl ?_
          refine Ops.nil ?_
          refine Then.next ?_
          refine Body.ret ?_
          (refine ⟨.inr rfl, _, pk [] rfl, bool_eq ?_, rfl⟩; show _ ↔ (View.ok ⟨x.v.rows, x.v.cols, x.v.cells, x.v.row, x.v.col, x.v.vis⟩ && decide _) = true; simp only [Bool.and_eq_true, decide_eq_true_eq, Bool.false_eq_true, Bool.true_eq_false, true_and, false_and, true_iff, false_iff, iff_true, iff_false, not_and, *] <;> first | omega | (intro _; omega) | simp | (constructor <;> intros <;> first | omega | (simp_all; omega)))
        · refine Ops.gn rfl rfl rfl rfl rfl ?_
          refine Ops.gn rfl rfl rfl rfl rfl ?_
          refine Ops.gn rfl rfl rfl rfl rfl ?_
          refine Ops.u (Dtu.pickF (lk rfl) (lk rfl)) rfl ?_
          refine Ops.u (Dtu.asg (lk rfl)) rfl ?_
          refine Ops.nil ?_
          refine Then.next ?_
          refine Body.ret ?_
          (refine ⟨.inr rfl, _, pk [] rfl, bool_eq ?_, rfl⟩; show _ ↔ (View.ok ⟨x.v.rows, x.v.cols, x.v.cells, x.v.row, x.v.col, x.v.vis⟩ && decide _) = true; simp only [Bool.and_eq_true, decide_eq_true_eq, Bool.false_eq_true, Bool.true_eq_false, true_and, false_and, true_iff, false_iff, iff_true, iff_false, not_and, *] <;> first | omega | (intro _; omega) | simp | (constructor <;> intros <;> first | omega | (simp_all; omega)))
      · refine Ops.gn rfl rfl rfl rfl rfl ?_
        refine Ops.gn rfl rfl rfl rfl rfl ?_
        refine Ops.gn rfl rfl rfl rfl rfl ?_
        refine Ops.u (Dtu.pickF (lk rfl) (lk rfl)) rfl ?_
        refine Ops.u (Dtu.mv (lk rfl)) rfl ?_
        refine Ops.gn rfl rfl rfl rfl rfl ?_
        refine Ops.gn rfl rfl rfl rfl rfl ?_
        refine Ops.gn rfl rfl rfl rfl rfl ?_
        refine Ops.u (Dtu.pickF (lk rfl) (lk rfl)) rfl ?_
        refine Ops.u (Dtu.asg (lk rfl)) rfl ?_
        refine Ops.nil ?_
        refine Then.next ?_
        refine Body.ret ?_
        (refine ⟨.inr rfl, _, pk [] rfl, bool_eq ?_, rfl⟩; show _ ↔ (View.ok ⟨x.v.rows, x.v.cols, x.v.cells, x.v.row, x.v.col, x.v.vis⟩ && decide _) = true; simp only [Bool.and_eq_true, decide_eq_true_eq, Bool.false_eq_true, Bool.true_eq_false, true_and, false_and, true_iff, false_iff, iff_true, iff_false, not_and, *] <;> first | omega | (intro _; omega) | simp | (constructor <;> intros <;> first | omega | (simp_all; omega)))
    · refine Ops.gn rfl rfl rfl rfl rfl ?_
      refine Ops.gn rfl rfl rfl rfl rfl ?_
      refine Ops.gn rfl rfl rfl rfl rfl ?_
      refine Ops.gn rfl rfl rfl rfl rfl ?_
      refine Ops.u (Dtu.pickF (lk rfl) (lk rfl)) rfl ?_
      refine Ops.u (Dtu.mv (lk rfl)) rfl ?_
      refine Ops.gn rfl rfl rfl rfl rfl ?_
      refine Ops.gn rfl rfl rfl rfl rfl ?_
      refine Ops.gn rfl rfl rfl rfl rfl ?_
      refine Ops.u (Dtu.pickF (lk rfl) (lk rfl)) rfl ?_
      refine Ops.u (Dtu.mv (lk rfl)) rfl ?_
      refine Ops.gn rfl rfl rfl rfl rfl ?_
      refine Ops.gn rfl rfl rfl rfl rfl ?_
      refine Ops.gn rfl rfl rfl rfl rfl ?_
      refine Ops.u (Dtu.pickF (lk rfl) (lk rfl)) rfl ?_
      refine Ops.u (Dtu.asg (lk rfl)) rfl ?_
      refine Ops.nil ?_
      refine Then.next ?_
      refine Body.ret ?_
      (refine ⟨.inr rfl, _, pk [] rfl, bool_eq ?_, rfl⟩; show _ ↔ (View.ok ⟨x.v.rows, x.v.cols, x.v.cells, x.v.row, x.v.col, x.v.vis⟩ && decide _) = true; simp only [Bool.and_eq_true, decide_eq_true_eq, Bool.false_eq_true, Bool.true_eq_false, true_and, false_and, true_iff, false_iff, iff_true, iff_false, not_and, *] <;> first | omega | (intro _; omega) | simp | (constructor <;> intros <;> first | omega | (simp_all; omega)))
  · refine Ops.gn rfl rfl rfl rfl rfl ?_
    refine Ops.gn rfl rfl rfl rfl rfl ?_
    refine Ops.gn rfl rfl rfl rfl rfl ?_
    refine Ops.gn rfl rfl rfl rfl rfl ?_
    refine Ops.u (Dtu.pickF (lk rfl) (lk rfl)) rfl ?_
    refine Ops.u (Dtu.mv (lk rfl)) rfl ?_
    refine Ops.gn rfl rfl rfl rfl rfl ?_
    refine Ops.gn rfl rfl rfl rfl rfl ?_
    refine Ops.gn rfl rfl rfl rfl rfl ?_
    refine Ops.gn rfl rfl rfl rfl rfl ?_
    refine Ops.u (Dtu.pickF (lk rfl) (lk rfl)) rfl ?_
    refine Ops.u (Dtu.mv (lk rfl)) rfl ?_
    refine Ops.gn rfl rfl rfl rfl rfl ?_
    refine Ops.gn rfl rfl rfl rfl rfl ?_
    refine Ops.gn rfl rfl rfl rfl rfl ?_
    refine Ops.u (Dtu.pickF (lk rfl) (lk rfl)) rfl ?_
    refine Ops.u (Dtu.mv (lk rfl)) rfl ?_
    refine Ops.gn rfl rfl rfl rfl rfl ?_
    refine Ops.gn rfl rfl rfl rfl rfl ?_
    refine Ops.gn rfl rfl rfl rfl rfl ?_
    refine Ops.u (Dtu.pickF (lk rfl) (lk rfl)) rfl ?_
    refine Ops.u (Dtu.asg (lk rfl)) rfl ?_
    refine Ops.nil ?_
    refine Then.next ?_
    refine Body.ret ?_
    (refine ⟨.inr rfl, _, pk [] rfl, bool_eq ?_, rfl⟩; show _ ↔ (View.ok ⟨x.v.rows, x.v.cols, x.v.cells, x.v.row, x.v.col, x.v.vis⟩ && decide _) = true; simp only [Bool.and_eq_true, decide_eq_true_eq, Bool.false_eq_true, Bool.true_eq_false, true_and, false_and, true_iff, false_iff, iff_true, iff_false, not_and, *] <;> first | omega | (intro _; omega) | simp | (constructor <;> intros <;> first | omega | (simp_all; omega)))
def Stt.eqv (a b : Stt) : Prop := a.v = b.v ∧ a.title.toList = b.title.toList ∧ (a.clip.toList = b.clip.toList ∧ a.clips = b.clips) ∧ a.bells = b.bells
instance (a b : Stt) : Decidable (a.eqv b) := by unfold Stt.eqv; infer_instance
end Go.Proofs.Ytijjjdljdjnbaaa
end
section
/- States: great ones; the first one. Fields' bytes. -/
namespace Go.Proofs.Ytijjjdljdjnbaaa
set_option maxRecDepth 100000
set_option linter.unusedVariables false
set_option linter.unusedSimpArgs false
open Go.Sx

def Stt.great (x : Stt) : Prop := 600 < x.v.cells.length ∨ 200 < x.title.size ∨ 500 < x.clip.size
instance (x : Stt) : Decidable x.great := by unfold Stt.great; infer_instance
theorem great_ok (E : Env) (x : Stt) (s : Value) (h : x.v.has E [] s) : Does Try.prog 38 #[x.val s] E [] fun r H' => r = .bool (decide x.great) ∧ H' = [] := by
  unfold View.has at h
  refine Does.pure h.isSl fun hs => ?_
  obtain ⟨sa, sm, sc, rfl⟩ := hs
  refine Does.go (args := [x.val _]) _ _ Try.func38 rfl Try.ntmps38 rfl rfl ?_
  refine Body.seq ?_
  refine Body.region ?_
  refine Ops.s (Stp.box (lk rfl) rfl (fun b1 => ?_)) rfl
  refine Ops.u (Dtu.asg (lk rfl)) rfl ?_
  refine Ops.nil ?_
  refine Then.next ?_
  refine Body.seq ?_
  refine Body.region ?_
  refine Ops.u (Dtu.fld fa77_0 (lk rfl)) rfl ?_
  refine Ops.u (Dtu.fld fa24_2 (lk rfl)) rfl ?_
  refine Ops.d (Det.ld Try.isAgg22 (lk rfl) (Rd.ow 0 rfl rfl)) rfl ?_
  refine Ops.u (Dtu.lenS Try.underlying22 (Sl.up h) (lk rfl)) rfl ?_
  refine Ops.u (Dtu.gtr (lk rfl) (lk rfl)) rfl ?_
  refine Ops.u (Dtu.mv (lk rfl)) rfl ?_
  refine Ops.decP 8 rfl (fun c8 => ?_) (fun c8 => ?_)
  · refine Ops.gn rfl rfl rfl rfl rfl ?_
    refine Ops.gn rfl rfl rfl rfl rfl ?_
    refine Ops.gn rfl rfl rfl rfl rfl ?_
    refine Ops.gn rfl rfl rfl rfl rfl ?_
    refine Ops.u (Dtu.pickT (lk rfl) (lk rfl)) rfl ?_
    refine Ops.u (Dtu.mv (lk rfl)) rfl ?_
    refine Ops.gn rfl rfl rfl rfl rfl ?_
    refine Ops.gn rfl rfl rfl rfl rfl ?_
    refine Ops.gn rfl rfl rfl rfl rfl ?_
    refine Ops.gn rfl rfl rfl rfl rfl ?_
    refine Ops.u (Dtu.pickT (lk rfl) (lk rfl)) rfl ?_
    refine Ops.u (Dtu.asg (lk rfl)) rfl ?_
    refine Ops.nil ?_
    refine Then.next ?_
    refine Body.ret ?_
    (refine ⟨.inr rfl, _, pk [] rfl, bool_eq ?_, rfl⟩; first | exact ⟨fun _ => decide_eq_true (show _ ∨ _ ∨ _ by omega), fun _ => rfl⟩ | exact ⟨fun h => decide_eq_true (show _ ∨ _ ∨ _ by have := of_decide_eq_true h; omega), fun h => decide_eq_true (by have h2 : _ ∨ _ ∨ _ := of_decide_eq_true h; omega)⟩)
  · refine Ops.gu rfl rfl rfl (Dtu.fld fa77_1 (lk rfl)) rfl ?_
    refine Ops.gd rfl rfl rfl (Det.ld Try.isAgg9 (lk rfl) (Rd.ow 0 rfl rfl)) rfl ?_
    refine Ops.gu rfl rfl rfl (Dtu.lenStr Try.underlying9 (lk rfl)) rfl ?_
    refine Ops.gu rfl rfl rfl (Dtu.gtr (lk rfl) (lk rfl)) rfl ?_
    refine Ops.u (Dtu.pickF (lk rfl) (lk rfl)) rfl ?_
    refine Ops.u (Dtu.mv (lk rfl)) rfl ?_
    refine Ops.decP 14 rfl (fun c14 => ?_) (fun c14 => ?_)
    · refine Ops.gn rfl rfl rfl rfl rfl ?_
      refine Ops.gn rfl rfl rfl rfl rfl ?_
      refine Ops.gn rfl rfl rfl rfl rfl ?_
      refine Ops.gn rfl rfl rfl rfl rfl ?_
      refine Ops.u (Dtu.pickT (lk rfl) (lk rfl)) rfl ?_
      refine Ops.u (Dtu.asg (lk rfl)) rfl ?_
      refine Ops.nil ?_
      refine Then.next ?_
      refine Body.ret ?_
      (refine ⟨.inr rfl, _, pk [] rfl, bool_eq ?_, rfl⟩; first | exact ⟨fun _ => decide_eq_true (show _ ∨ _ ∨ _ by omega), fun _ => rfl⟩ | exact ⟨fun h => decide_eq_true (show _ ∨ _ ∨ _ by have := of_decide_eq_true h; omega), fun h => decide_eq_true (by have h2 : _ ∨ _ ∨ _ := of_decide_eq_true h; omega)⟩)
    · refine Ops.gu rfl rfl rfl (Dtu.fld fa77_2 (lk rfl)) rfl ?_
      refine Ops.gd rfl rfl rfl (Det.ld Try.isAgg9 (lk rfl) (Rd.ow 0 rfl rfl)) rfl ?_
      refine Ops.gu rfl rfl rfl (Dtu.lenStr Try.underlying9 (lk rfl)) rfl ?_
      refine Ops.gu rfl rfl rfl (Dtu.gtr (lk rfl) (lk rfl)) rfl ?_
      refine Ops.u (Dtu.pickF (lk rfl) (lk rfl)) rfl ?_
      refine Ops.u (Dtu.asg (lk rfl)) rfl ?_
      refine Ops.nil ?_
      refine Then.next ?_
      refine Body.ret ?_
      (refine ⟨.inr rfl, _, pk [] rfl, bool_eq ?_, rfl⟩; first | exact ⟨fun _ => decide_eq_true (show _ ∨ _ ∨ _ by omega), fun _ => rfl⟩ | exact ⟨fun h => decide_eq_true (show _ ∨ _ ∨ _ by have := of_decide_eq_true h; omega), fun h => decide_eq_true (by have h2 : _ ∨ _ ∨ _ := of_decide_eq_true h; omega)⟩)
def Stt.first : Stt := ⟨View.first, ⟨#[]⟩, ⟨#[]⟩, 0, 0⟩
theorem sfirst_ok (E : Env) : Does Try.prog 50 #[] E [] fun r H' => ∃ (a : Option Addr) (m c : Nat), r = Stt.first.val (.slice a m c) ∧ H' = [osl 55 4 (.slice a m c) 1 (View.first.cells.flatMap Cell.enc)] := by
  refine Does.go (args := []) _ _ Try.func50 rfl Try.ntmps50 rfl rfl ?_
  refine Body.seq ?_
  refine Body.region ?_
  refine Ops.s (Stp.alloc ty77 (fun b0 => ?_)) rfl
  refine Ops.nil ?_
  refine Then.next ?_
  refine Body.seq ?_
  refine Body.region ?_
  refine Ops.s (Stp.call rfl Try.call57 (lks rfl) (fun E' le hat => first_ok E') ?_) rfl
  rintro _ _ ⟨s1, rfl, rfl⟩
  refine Ops.u (Dtu.build ty77 pl77 (lkp rfl) rfl rfl) rfl ?_
  refine Ops.pure (Sl.isSl (Sl.osl 0 rfl)) fun h1 => ?_
  obtain ⟨z1, z2, z3, rfl⟩ := h1
  refine Ops.e (Stp.store 1 Try.sizeOf77 (lk rfl) (lk rfl) rfl rfl rfl rfl rfl rfl rfl ?_)
  refine Ops.nil ?_
  refine Then.next ?_
  refine Body.ret ?_
  exact ⟨.inr rfl, _, Loads.agg Try.isAgg77 Try.sizeOf77 (Rds.ow (m := 10) 1 rfl rfl) rfl, _, pk [0] rfl, z1, z2, z3, rfl, rfl⟩
structure Fld where
  tag : Int
  a : Option Addr
  m : Nat
  c : Nat
  data : List Int
  deriving Inhabited
def Fld.enc (f : Fld) : List Value := [.int .u8 f.tag, .slice f.a f.m f.c]
def Fld.has (f : Fld) (E : Env) (H : List HProp) : Prop := Sl E H 1 (.slice f.a f.m f.c) f.data.length (f.data.map (.int .u8))
end Go.Proofs.Ytijjjdljdjnbaaa
end
section
/- Changes: Diff. -/
namespace Go.Proofs.Ytijjjdljdjnbaaa
set_option maxRecDepth 100000
set_option linter.unusedVariables false
set_option linter.unusedSimpArgs false
open Go.Sx

theorem Stt.ok_fits {x : Stt} (h : x.ok = true) : x.v.ok = true ∧ x.title.size ≤ 64 ∧ x.clip.size ≤ 256 ∧ x.clips ≤ 4611686018427387903 ∧ x.bells ≤ 4611686018427387903 := by
  simp only [Stt.ok, Bool.and_eq_true, decide_eq_true_eq] at h
  exact ⟨h.1, h.2⟩
end Go.Proofs.Ytijjjdljdjnbaaa
end
section
/- The fields that bytes have; the first one of a tag. -/
namespace Go.Proofs.Ytijjjdljdjnbaaa
set_option maxRecDepth 100000
set_option linter.unusedVariables false
set_option linter.unusedSimpArgs false
open Go.Sx

def Fld.own (f : Fld) : HProp := osl 5 1 (.slice f.a f.m f.c) f.data.length (f.data.map (.int .u8))
end Go.Proofs.Ytijjjdljdjnbaaa
end
section
/- The first field of a tag. -/
namespace Go.Proofs.Ytijjjdljdjnbaaa
set_option maxRecDepth 100000
set_option linter.unusedVariables false
set_option linter.unusedSimpArgs false
open Go.Sx

end Go.Proofs.Ytijjjdljdjnbaaa
end
section
/- States: Apply, what it computes. -/
namespace Go.Proofs.Ytijjjdljdjnbaaa
set_option maxRecDepth 100000
set_option linter.unusedVariables false
set_option linter.unusedSimpArgs false
open Go.Sx

def Stt.none : Stt := ⟨View.none, ⟨#[]⟩, ⟨#[]⟩, 0, 0⟩
end Go.Proofs.Ytijjjdljdjnbaaa
end
section
/- States: a change's bytes have its fields; a change makes b of a. -/
namespace Go.Proofs.Ytijjjdljdjnbaaa
set_option maxRecDepth 100000
set_option linter.unusedVariables false
set_option linter.unusedSimpArgs false
open Go.Sx

end Go.Proofs.Ytijjjdljdjnbaaa
end
section
/- States: the fixed calls of longlinelaw22.alive. -/
namespace Go.Proofs.Ytijjjdljdjnbaaa
set_option maxRecDepth 100000
set_option linter.unusedVariables false
set_option linter.unusedSimpArgs false
open Go.Sx

theorem sfirst_ok' : Stt.first.ok = true := by decide +kernel
end Go.Proofs.Ytijjjdljdjnbaaa
end
section
/- States: the law function RegMakes. -/
namespace Go.Proofs.Ytijjjdljdjnbaaa
set_option maxRecDepth 100000
set_option linter.unusedVariables false
set_option linter.unusedSimpArgs false
open Go.Sx

structure Stt.Fine (x : Stt) : Prop where
  fl : ∀ c ∈ x.v.cells, c.Fl
  c0 : 0 ≤ x.clips
  b0 : 0 ≤ x.bells
end Go.Proofs.Ytijjjdljdjnbaaa
end
section
/- States as arguments. -/
namespace Go.Proofs.Ytijjjdljdjnbaaa
set_option maxRecDepth 100000
set_option linter.unusedVariables false
set_option linter.unusedSimpArgs false
open Go.Sx Go.ChangeShapes Go.RowKit Go.WideShapes

theorem cells1_9 : Try.prog.cellsOf 9 = 1 := by kernel_rfl
theorem cells1_75 : Try.prog.cellsOf 75 = 1 := by kernel_rfl
theorem cells10_77 : Try.prog.cellsOf 77 = 10 := by kernel_rfl
end Go.Proofs.Ytijjjdljdjnbaaa
end
