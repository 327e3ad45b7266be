/- Views: which may be. -/
import Derived.Test.YtijjjdljdjnbaaaCell
namespace Go.Proofs.Ytijjjdljdjnbaaa
set_option maxRecDepth 100000
set_option linter.unusedVariables false
set_option linter.unusedSimpArgs false
open Go.Sx

/-- the first place at which p holds; -1: nowhere -/
def firstAt {α : Type} (p : α → Bool) (l : List α) : Int := match l.findIdx? p with
  | some i => i
  | none => -1
theorem firstAt_some {α : Type} [Inhabited α] {p : α → Bool} {l : List α} {i : Nat} (h : i < l.length) (h1 : p l[i]! = true) (h2 : ∀ j, j < i → p l[j]! = false) : firstAt p l = i := by
  have : l.findIdx? p = some i := by
    rw [List.findIdx?_eq_some_iff_getElem]
    refine ⟨h, by rw [getElem!_pos l i h] at h1; exact h1, fun j hj => ?_⟩
    have := h2 j hj
    rw [getElem!_pos l j (by omega)] at this
    simp [this]
  simp [firstAt, this]
theorem firstAt_none {α : Type} [Inhabited α] {p : α → Bool} {l : List α} (h2 : ∀ j, j < l.length → p l[j]! = false) : firstAt p l = -1 := by
  have : l.findIdx? p = none := by
    rw [List.findIdx?_eq_none_iff]
    intro x hx
    obtain ⟨j, hj, rfl⟩ := List.getElem_of_mem hx
    have := h2 j hj
    rwa [getElem!_pos l j hj] at this
  simp [firstAt, this]
theorem firstAt_any {α : Type} (p : α → Bool) (l : List α) : decide (0 ≤ firstAt p l) = l.any p := by
  cases h : l.findIdx? p with
  | none =>
    rw [List.findIdx?_eq_none_iff] at h
    have : l.any p = false := by simpa using h
    simp [firstAt, List.findIdx?_eq_none_iff.2 h, this]
  | some i =>
    have h' := h
    rw [List.findIdx?_eq_some_iff_getElem] at h
    obtain ⟨hi, h1, _⟩ := h
    have : l.any p = true := by rw [List.any_eq_true]; exact ⟨_, List.getElem_mem hi, h1⟩
    simp [firstAt, h', this]
theorem indexC_ok (E : Env) (s : Value) (cs : List Cell) (p : Cell → Bool) (fn : FuncId) (hcall : ∀ args w, (callFunc fn args).run Try.prog w = .ok (.enter fn args) w) (hp : ∀ E c, Does Try.prog fn #[.agg c.enc.toArray] E [] fun r H' => r = .bool (p c) ∧ H' = [])
    (h : Sl E [] 4 s cs.length (cs.flatMap Cell.enc)) : Does Try.prog 106 #[s, .func (.func fn) #[] #[]] E [] fun r H' => r = .int .i64 (firstAt p cs) ∧ H' = [] := by
  refine Does.pure h.len fun hlen => ?_
  refine Does.go (args := [s, .func (.func fn) #[] #[]]) _ _ Try.func106 rfl Try.ntmps106 rfl rfl ?_
  refine Body.seq ?_
  refine Body.region ?_
  refine Ops.u (Dtu.asg (lk rfl)) rfl ?_
  refine Ops.nil ?_
  refine Then.next ?_
  refine Body.seq ?_
  refine Body.seq ?_
  refine Body.region ?_
  refine Ops.u (Dtu.mv (lk rfl)) rfl ?_
  refine Ops.u (Dtu.lenS Try.underlying22 (Sl.up h) (lk rfl)) rfl ?_
  refine Ops.u (Dtu.mv (lk rfl)) rfl ?_
  refine Ops.nil ?_
  refine Then.next ?_
  refine Body.block ?_
  refine Body.loopF (γ := Nat) rfl (fun k => [(8, .int .i64 k)]) (fun _ => []) (fun k => k ≤ cs.length ∧ ∀ j, j < k → p cs[j]! = false) (fun k => cs.length - k) 0 ⟨by omega, fun j hj => by omega⟩ ⟨rfl, trivial⟩ rfl ?_
  rintro k u ⟨hk, hb⟩
  refine Body.seq ?_
  refine Body.region ?_
  refine Ops.u (Dtu.lss (lk rfl) (lk rfl)) rfl ?_
  refine Ops.nil ?_
  refine Then.next ?_
  refine Body.seq ?_
  refine Body.condP (lk rfl) (fun c9 => ?_) (fun c9 => ?_)
  · refine Body.skip ?_
    refine Then.next ?_
    refine Body.seq ?_
    refine Body.block ?_
    refine Body.seq ?_
    refine Body.region ?_
    refine Ops.u (Dtu.mv (lk rfl)) rfl ?_
    refine Ops.u (Dtu.asg (lk rfl)) rfl ?_
    refine Ops.nil ?_
    refine Then.next ?_
    refine Body.seq ?_
    refine Body.region ?_
    refine Ops.u (Dtu.mv (lk rfl)) rfl ?_
    refine Ops.u (Dtu.mv (lk rfl)) rfl ?_
    refine Ops.u (Dtu.mv (lk rfl)) rfl ?_
    refine Ops.u (Dtu.ix (i := (k)) Try.underlying22 Try.sizeOf55 (Sl.up h) (lk rfl) (lk rfl) (by omega) (by omega)) rfl ?_
    refine Ops.d (Det.lda Try.isAgg55 Try.sizeOf55 (lk rfl) (Rds.sl (Sl.up h) (gf (sz := 4) (fun _ => rfl) (by omega))) rfl) rfl ?_
    refine Ops.s (Stp.call rfl hcall (lks rfl) (fun E' le hat => hp E' cs[k]!) ?_) rfl
    rintro _ _ ⟨rfl, rfl⟩
    refine Ops.nil ?_
    refine Then.next ?_
    refine Body.cond (lk rfl) (fun c16 => ?_) (fun c16 => ?_)
    · refine Body.seq ?_
      refine Body.region ?_
      refine Ops.u (Dtu.mv (lk rfl)) rfl ?_
      refine Ops.u (Dtu.asg (lk rfl)) rfl ?_
      refine Ops.nil ?_
      refine Then.next ?_
      refine Body.ret ?_
      refine Blk.ret ?_
      refine Then.ret ?_
      refine Round.ret ?_
      refine Blk.ret ?_
      refine Then.ret ?_
      exact ⟨.inr rfl, _, pk [] rfl, by rw [firstAt_some (by omega) c16 hb]; rfl, rfl⟩
    · refine Body.skip ?_
      refine Blk.norm ?_
      refine Then.next ?_
      refine Body.region ?_
      refine Ops.u (Dtu.add (lk rfl) (lk rfl) (w64 (by omega) (by omega))) rfl ?_
      refine Ops.u (Dtu.mv (lk rfl)) rfl ?_
      refine Ops.nil ?_
      refine Round.goF (k + 1) rfl rfl rfl ⟨int_eq (by omega), trivial⟩ rfl ⟨by omega, fun j hj => ?_⟩ (by omega)
      by_cases e : j = k
      · subst e; exact c16
      · exact hb j (by omega)
  · refine Body.exit ?_
    refine Then.exit ?_
    refine Round.exit ?_
    refine Blk.here ?_
    refine Then.next ?_
    refine Body.seq ?_
    refine Body.region ?_
    refine Ops.u (Dtu.asg (lk rfl)) rfl ?_
    refine Ops.nil ?_
    refine Then.next ?_
    refine Body.ret ?_
    exact ⟨.inr rfl, _, pk [] rfl, by rw [firstAt_none (fun j hj => hb j (by omega))]; rfl, rfl⟩
theorem containsC_ok (E : Env) (s : Value) (cs : List Cell) (p : Cell → Bool) (fn : FuncId) (hcall : ∀ args w, (callFunc fn args).run Try.prog w = .ok (.enter fn args) w) (hp : ∀ E c, Does Try.prog fn #[.agg c.enc.toArray] E [] fun r H' => r = .bool (p c) ∧ H' = [])
    (h : Sl E [] 4 s cs.length (cs.flatMap Cell.enc)) : Does Try.prog 68 #[s, .func (.func fn) #[] #[]] E [] fun r H' => r = .bool (cs.any p) ∧ H' = [] := by
  refine Does.go (args := [s, .func (.func fn) #[] #[]]) _ _ Try.func68 rfl Try.ntmps68 rfl rfl ?_
  refine Body.seq ?_
  refine Body.region ?_
  refine Ops.u (Dtu.asg (lk rfl)) rfl ?_
  refine Ops.nil ?_
  refine Then.next ?_
  refine Body.seq ?_
  refine Body.region ?_
  refine Ops.u (Dtu.mv (lk rfl)) rfl ?_
  refine Ops.u (Dtu.mv (lk rfl)) rfl ?_
  refine Ops.s (Stp.call rfl Try.call106 (lks rfl) (fun E' le hat => indexC_ok E' s cs p fn hcall hp (h.mono le)) ?_) rfl
  rintro _ _ ⟨rfl, rfl⟩
  refine Ops.u (Dtu.geq (lk rfl) (lk rfl)) rfl ?_
  refine Ops.u (Dtu.asg (lk rfl)) rfl ?_
  refine Ops.nil ?_
  refine Then.next ?_
  refine Body.ret ?_
  exact ⟨.inr rfl, _, pk [] rfl, by rw [← firstAt_any]; rfl, rfl⟩
theorem right1_ok (E : Env) (c : Cell) : Does Try.prog 69 #[.agg c.enc.toArray] E [] fun r H' => r = .bool (!c.ok) ∧ H' = [] := by
  refine Does.go (args := [.agg c.enc.toArray]) _ _ Try.func69 rfl Try.ntmps69 rfl rfl ?_
  refine Body.seq ?_
  refine Body.region ?_
  refine Ops.s (Stp.box (lk rfl) rfl (fun b1 => ?_)) rfl
  refine Ops.u (Dtu.asg (lk rfl)) rfl ?_
  refine Ops.nil ?_
  refine Then.next ?_
  refine Body.seq ?_
  refine Body.region ?_
  refine Ops.d (Det.lda Try.isAgg55 Try.sizeOf55 (lk rfl) (Rds.ow (m := 4) 0 rfl rfl) rfl) rfl ?_
  refine Ops.s (Stp.call rfl Try.call70 (lks rfl) (fun E' le hat => isCell_ok E' _ _ _ _) ?_) rfl
  rintro _ _ ⟨rfl, rfl⟩
  refine Ops.u (Dtu.not (lk rfl)) rfl ?_
  refine Ops.u (Dtu.asg (lk rfl)) rfl ?_
  refine Ops.nil ?_
  refine Then.next ?_
  refine Body.ret ?_
  exact ⟨.inr rfl, _, pk [] rfl, rfl, rfl⟩

structure View where
  rows : Int
  cols : Int
  cells : List Cell
  row : Int
  col : Int
  vis : Bool
  deriving DecidableEq, Inhabited
def View.val (v : View) (s : Value) : Value := .agg #[.int .i64 v.rows, .int .i64 v.cols, s, .int .i64 v.row, .int .i64 v.col, .bool v.vis]
def View.has (v : View) (E : Env) (H : List HProp) (s : Value) : Prop := Sl E H 4 s v.cells.length (v.cells.flatMap Cell.enc)
def View.fits (v : View) : Prop := (1 ≤ v.rows ∧ v.rows ≤ 12 ∧ 1 ≤ v.cols ∧ v.cols ≤ 40) ∧ 0 ≤ v.row ∧ v.row < v.rows ∧ 0 ≤ v.col ∧ v.col < v.cols ∧ (v.cells.length : Int) = v.rows * v.cols
instance (v : View) : Decidable v.fits := by unfold View.fits; infer_instance
def View.ok (v : View) : Bool := decide v.fits && v.cells.all Cell.ok
theorem mul_bound {a b : Int} (h : 1 ≤ a ∧ a ≤ 12 ∧ 1 ≤ b ∧ b ≤ 40) : 1 ≤ a * b ∧ a * b ≤ 480 :=
  ⟨by have := Int.mul_le_mul h.1 h.2.2.1 (by omega) (by omega : (0:Int) ≤ a); omega, by have := Int.mul_le_mul h.2.1 h.2.2.2 (by omega) (by omega : (0:Int) ≤ 12); omega⟩
theorem wrap_rc {a b : Int} (h : 1 ≤ a ∧ a ≤ 12 ∧ 1 ≤ b ∧ b ≤ 40) : IntKind.i64.wrap (a * b) = a * b := w64 (by have := mul_bound h; omega) (by have := mul_bound h; omega)
theorem View.fits_w {v : View} : v.fits ↔ ((1 ≤ v.rows ∧ v.rows ≤ 12 ∧ 1 ≤ v.cols ∧ v.cols ≤ 40) ∧ 0 ≤ v.row ∧ v.row < v.rows ∧ 0 ≤ v.col ∧ v.col < v.cols ∧ (v.cells.length : Int) = IntKind.i64.wrap (v.rows * v.cols)) := by
  unfold View.fits
  constructor <;> rintro ⟨h, r⟩ <;> refine ⟨h, ?_⟩ <;> have := wrap_rc h <;> omega
theorem View.ok_no {v : View} (h : ¬ v.fits) : v.ok = false := by simp [View.ok, h]
theorem View.ok_yes {v : View} (h : v.fits) : v.ok = !(v.cells.any fun c => !c.ok) := by simp [View.ok, h, List.any_eq_not_all_not]
theorem right_ok (E : Env) (v : View) (s : Value) (h : v.has E [] s) : Does Try.prog 25 #[v.val s] E [] fun r H' => r = .bool v.ok ∧ H' = [] := by
  unfold View.has at h
  refine Does.pure h.len fun hlen => ?_
  refine Does.pure h.isSl fun hsl => ?_
  refine Does.go (args := [v.val s]) _ _ Try.func25 rfl Try.ntmps25 rfl rfl ?_
  refine Body.seq ?_
  refine Body.region ?_
  refine Ops.s (Stp.box (lk rfl) rfl (fun b1 => ?_)) rfl
  refine Ops.u (Dtu.asg (lk rfl)) rfl ?_
  refine Ops.nil ?_
  refine Then.next ?_
  refine Body.seq ?_
  refine Body.block ?_
  refine Body.seq ?_
  refine Body.region ?_
  refine Ops.u (Dtu.fld fa24_0 (lk rfl)) rfl ?_
  refine Ops.d (Det.ld Try.isAgg3 (lk rfl) (Rd.ow 0 rfl rfl)) rfl ?_
  refine Ops.u (Dtu.lss (lk rfl) (lk rfl)) rfl ?_
  refine Ops.u (Dtu.mv (lk rfl)) rfl ?_
  refine Ops.decP 7 rfl (fun c7 => ?_) (fun c7 => ?_)
  · refine Ops.gn rfl rfl rfl rfl rfl ?_
    refine Ops.gn rfl rfl rfl rfl rfl ?_
    refine Ops.gn rfl rfl rfl rfl rfl ?_
    refine Ops.u (Dtu.pickT (lk rfl) (lk rfl)) rfl ?_
    refine Ops.u (Dtu.mv (lk rfl)) rfl ?_
    refine Ops.gn rfl rfl rfl rfl rfl ?_
    refine Ops.gn rfl rfl rfl rfl rfl ?_
    refine Ops.gn rfl rfl rfl rfl rfl ?_
    refine Ops.u (Dtu.pickT (lk rfl) (lk rfl)) rfl ?_
    refine Ops.u (Dtu.mv (lk rfl)) rfl ?_
    refine Ops.gn rfl rfl rfl rfl rfl ?_
    refine Ops.gn rfl rfl rfl rfl rfl ?_
    refine Ops.gn rfl rfl rfl rfl rfl ?_
    refine Ops.u (Dtu.pickT (lk rfl) (lk rfl)) rfl ?_
    refine Ops.u (Dtu.asg (lk rfl)) rfl ?_
    refine Ops.nil ?_
    refine Then.next ?_
    refine Body.condT (lk rfl) ?_
    refine Body.seq ?_
    refine Body.region ?_
    refine Ops.u (Dtu.asg (lk rfl)) rfl ?_
    refine Ops.nil ?_
    refine Then.next ?_
    refine Body.ret ?_
    refine Blk.ret ?_
    refine Then.ret ?_
    (first | exact ⟨.inr rfl, _, pk [] rfl, by rw [View.ok_no (by rw [View.fits_w]; omega)]; rfl, rfl⟩ | exact ⟨.inr rfl, _, pk [] rfl, by rw [View.ok_yes (by rw [View.fits_w]; omega)]; rfl, rfl⟩)
  · refine Ops.gu rfl rfl rfl (Dtu.fld fa24_0 (lk rfl)) rfl ?_
    refine Ops.gd rfl rfl rfl (Det.ld Try.isAgg3 (lk rfl) (Rd.ow 0 rfl rfl)) rfl ?_
    refine Ops.gu rfl rfl rfl (Dtu.gtr (lk rfl) (lk rfl)) rfl ?_
    refine Ops.u (Dtu.pickF (lk rfl) (lk rfl)) rfl ?_
    refine Ops.u (Dtu.mv (lk rfl)) rfl ?_
    refine Ops.decP 12 rfl (fun c12 => ?_) (fun c12 => ?_)
    · refine Ops.gn rfl rfl rfl rfl rfl ?_
      refine Ops.gn rfl rfl rfl rfl rfl ?_
      refine Ops.gn rfl rfl rfl rfl rfl ?_
      refine Ops.u (Dtu.pickT (lk rfl) (lk rfl)) rfl ?_
      refine Ops.u (Dtu.mv (lk rfl)) rfl ?_
      refine Ops.gn rfl rfl rfl rfl rfl ?_
      refine Ops.gn rfl rfl rfl rfl rfl ?_
      refine Ops.gn rfl rfl rfl rfl rfl ?_
      refine Ops.u (Dtu.pickT (lk rfl) (lk rfl)) rfl ?_
      refine Ops.u (Dtu.asg (lk rfl)) rfl ?_
      refine Ops.nil ?_
      refine Then.next ?_
      refine Body.condT (lk rfl) ?_
      refine Body.seq ?_
      refine Body.region ?_
      refine Ops.u (Dtu.asg (lk rfl)) rfl ?_
      refine Ops.nil ?_
      refine Then.next ?_
      refine Body.ret ?_
      refine Blk.ret ?_
      refine Then.ret ?_
      (first | exact ⟨.inr rfl, _, pk [] rfl, by rw [View.ok_no (by rw [View.fits_w]; omega)]; rfl, rfl⟩ | exact ⟨.inr rfl, _, pk [] rfl, by rw [View.ok_yes (by rw [View.fits_w]; omega)]; rfl, rfl⟩)
    · refine Ops.gu rfl rfl rfl (Dtu.fld fa24_1 (lk rfl)) rfl ?_
      refine Ops.gd rfl rfl rfl (Det.ld Try.isAgg3 (lk rfl) (Rd.ow 0 rfl rfl)) rfl ?_
      refine Ops.gu rfl rfl rfl (Dtu.lss (lk rfl) (lk rfl)) rfl ?_
      refine Ops.u (Dtu.pickF (lk rfl) (lk rfl)) rfl ?_
      refine Ops.u (Dtu.mv (lk rfl)) rfl ?_
      refine Ops.decP 17 rfl (fun c17 => ?_) (fun c17 => ?_)
      · refine Ops.gn rfl rfl rfl rfl rfl ?_
        refine Ops.gn rfl rfl rfl rfl rfl ?_
        refine Ops.gn rfl rfl rfl rfl rfl ?_
        refine Ops.u (Dtu.pickT (lk rfl) (lk rfl)) rfl ?_
        refine Ops.u (Dtu.asg (lk rfl)) rfl ?_
        refine Ops.nil ?_
        refine Then.next ?_
        refine Body.condT (lk rfl) ?_
        refine Body.seq ?_
        refine Body.region ?_
        refine Ops.u (Dtu.asg (lk rfl)) rfl ?_
        refine Ops.nil ?_
        refine Then.next ?_
        refine Body.ret ?_
        refine Blk.ret ?_
        refine Then.ret ?_
        (first | exact ⟨.inr rfl, _, pk [] rfl, by rw [View.ok_no (by rw [View.fits_w]; omega)]; rfl, rfl⟩ | exact ⟨.inr rfl, _, pk [] rfl, by rw [View.ok_yes (by rw [View.fits_w]; omega)]; rfl, rfl⟩)
      · refine Ops.gu rfl rfl rfl (Dtu.fld fa24_1 (lk rfl)) rfl ?_
        refine Ops.gd rfl rfl rfl (Det.ld Try.isAgg3 (lk rfl) (Rd.ow 0 rfl rfl)) rfl ?_
        refine Ops.gu rfl rfl rfl (Dtu.gtr (lk rfl) (lk rfl)) rfl ?_
        refine Ops.u (Dtu.pickF (lk rfl) (lk rfl)) rfl ?_
        refine Ops.u (Dtu.asg (lk rfl)) rfl ?_
        refine Ops.nil ?_
        refine Then.next ?_
        refine Body.condP (lk rfl) (fun c3 => ?_) (fun c3 => ?_)
        · refine Body.seq ?_
          refine Body.region ?_
          refine Ops.u (Dtu.asg (lk rfl)) rfl ?_
          refine Ops.nil ?_
          refine Then.next ?_
          refine Body.ret ?_
          refine Blk.ret ?_
          refine Then.ret ?_
          (first | exact ⟨.inr rfl, _, pk [] rfl, by rw [View.ok_no (by rw [View.fits_w]; omega)]; rfl, rfl⟩ | exact ⟨.inr rfl, _, pk [] rfl, by rw [View.ok_yes (by rw [View.fits_w]; omega)]; rfl, rfl⟩)
        · refine Body.seq ?_
          refine Body.region ?_
          refine Ops.u (Dtu.fld fa24_3 (lk rfl)) rfl ?_
          refine Ops.d (Det.ld Try.isAgg3 (lk rfl) (Rd.ow 0 rfl rfl)) rfl ?_
          refine Ops.u (Dtu.lss (lk rfl) (lk rfl)) rfl ?_
          refine Ops.u (Dtu.mv (lk rfl)) rfl ?_
          refine Ops.decP 26 rfl (fun c26 => ?_) (fun c26 => ?_)
          · refine Ops.gn rfl rfl rfl rfl rfl ?_
            refine Ops.gn rfl rfl rfl rfl rfl ?_
            refine Ops.gn rfl rfl rfl rfl rfl ?_
            refine Ops.gn rfl rfl rfl rfl rfl ?_
            refine Ops.gn rfl rfl rfl rfl rfl ?_
            refine Ops.u (Dtu.pickT (lk rfl) (lk rfl)) rfl ?_
            refine Ops.u (Dtu.mv (lk rfl)) rfl ?_
            refine Ops.gn rfl rfl rfl rfl rfl ?_
            refine Ops.gn rfl rfl rfl rfl rfl ?_
            refine Ops.gn rfl rfl rfl rfl rfl ?_
            refine Ops.u (Dtu.pickT (lk rfl) (lk rfl)) rfl ?_
            refine Ops.u (Dtu.mv (lk rfl)) rfl ?_
            refine Ops.gn rfl rfl rfl rfl rfl ?_
            refine Ops.gn rfl rfl rfl rfl rfl ?_
            refine Ops.gn rfl rfl rfl rfl rfl ?_
            refine Ops.gn rfl rfl rfl rfl rfl ?_
            refine Ops.gn rfl rfl rfl rfl rfl ?_
            refine Ops.u (Dtu.pickT (lk rfl) (lk rfl)) rfl ?_
            refine Ops.u (Dtu.mv (lk rfl)) rfl ?_
            refine Ops.gn rfl rfl rfl rfl rfl ?_
            refine Ops.gn rfl rfl rfl rfl rfl ?_
            refine Ops.gn rfl rfl rfl rfl rfl ?_
            refine Ops.gn rfl rfl rfl rfl rfl ?_
            refine Ops.gn rfl rfl rfl rfl rfl ?_
            refine Ops.gn rfl rfl rfl rfl rfl ?_
            refine Ops.gn rfl rfl rfl rfl rfl ?_
            refine Ops.gn rfl rfl rfl rfl rfl ?_
            refine Ops.gn rfl rfl rfl rfl rfl ?_
            refine Ops.u (Dtu.pickT (lk rfl) (lk rfl)) rfl ?_
            refine Ops.u (Dtu.asg (lk rfl)) rfl ?_
            refine Ops.nil ?_
            refine Then.next ?_
            refine Body.condT (lk rfl) ?_
            refine Body.seq ?_
            refine Body.region ?_
            refine Ops.u (Dtu.asg (lk rfl)) rfl ?_
            refine Ops.nil ?_
            refine Then.next ?_
            refine Body.ret ?_
            refine Blk.ret ?_
            refine Then.ret ?_
            (first | exact ⟨.inr rfl, _, pk [] rfl, by rw [View.ok_no (by rw [View.fits_w]; omega)]; rfl, rfl⟩ | exact ⟨.inr rfl, _, pk [] rfl, by rw [View.ok_yes (by rw [View.fits_w]; omega)]; rfl, rfl⟩)
          · refine Ops.gu rfl rfl rfl (Dtu.fld fa24_3 (lk rfl)) rfl ?_
            refine Ops.gd rfl rfl rfl (Det.ld Try.isAgg3 (lk rfl) (Rd.ow 0 rfl rfl)) rfl ?_
            refine Ops.gu rfl rfl rfl (Dtu.fld fa24_0 (lk rfl)) rfl ?_
            refine Ops.gd rfl rfl rfl (Det.ld Try.isAgg3 (lk rfl) (Rd.ow 0 rfl rfl)) rfl ?_
            refine Ops.gu rfl rfl rfl (Dtu.geq (lk rfl) (lk rfl)) rfl ?_
            refine Ops.u (Dtu.pickF (lk rfl) (lk rfl)) rfl ?_
            refine Ops.u (Dtu.mv (lk rfl)) rfl ?_
            refine Ops.decP 33 rfl (fun c33 => ?_) (fun c33 => ?_)
            · refine Ops.gn rfl rfl rfl rfl rfl ?_
              refine Ops.gn rfl rfl rfl rfl rfl ?_
              refine Ops.gn rfl rfl rfl rfl rfl ?_
              refine Ops.u (Dtu.pickT (lk rfl) (lk rfl)) rfl ?_
              refine Ops.u (Dtu.mv (lk rfl)) rfl ?_
              refine Ops.gn rfl rfl rfl rfl rfl ?_
              refine Ops.gn rfl rfl rfl rfl rfl ?_
              refine Ops.gn rfl rfl rfl rfl rfl ?_
              refine Ops.gn rfl rfl rfl rfl rfl ?_
              refine Ops.gn rfl rfl rfl rfl rfl ?_
              refine Ops.u (Dtu.pickT (lk rfl) (lk rfl)) rfl ?_
              refine Ops.u (Dtu.mv (lk rfl)) rfl ?_
              refine Ops.gn rfl rfl rfl rfl rfl ?_
              refine Ops.gn rfl rfl rfl rfl rfl ?_
              refine Ops.gn rfl rfl rfl rfl rfl ?_
              refine Ops.gn rfl rfl rfl rfl rfl ?_
              refine Ops.gn rfl rfl rfl rfl rfl ?_
              refine Ops.gn rfl rfl rfl rfl rfl ?_
              refine Ops.gn rfl rfl rfl rfl rfl ?_
              refine Ops.gn rfl rfl rfl rfl rfl ?_
              refine Ops.gn rfl rfl rfl rfl rfl ?_
              refine Ops.u (Dtu.pickT (lk rfl) (lk rfl)) rfl ?_
              refine Ops.u (Dtu.asg (lk rfl)) rfl ?_
              refine Ops.nil ?_
              refine Then.next ?_
              refine Body.condT (lk rfl) ?_
              refine Body.seq ?_
              refine Body.region ?_
              refine Ops.u (Dtu.asg (lk rfl)) rfl ?_
              refine Ops.nil ?_
              refine Then.next ?_
              refine Body.ret ?_
              refine Blk.ret ?_
              refine Then.ret ?_
              (first | exact ⟨.inr rfl, _, pk [] rfl, by rw [View.ok_no (by rw [View.fits_w]; omega)]; rfl, rfl⟩ | exact ⟨.inr rfl, _, pk [] rfl, by rw [View.ok_yes (by rw [View.fits_w]; omega)]; rfl, rfl⟩)
            · refine Ops.gu rfl rfl rfl (Dtu.fld fa24_4 (lk rfl)) rfl ?_
              refine Ops.gd rfl rfl rfl (Det.ld Try.isAgg3 (lk rfl) (Rd.ow 0 rfl rfl)) rfl ?_
              refine Ops.gu rfl rfl rfl (Dtu.lss (lk rfl) (lk rfl)) rfl ?_
              refine Ops.u (Dtu.pickF (lk rfl) (lk rfl)) rfl ?_
              refine Ops.u (Dtu.mv (lk rfl)) rfl ?_
              refine Ops.decP 38 rfl (fun c38 => ?_) (fun c38 => ?_)
              · refine Ops.gn rfl rfl rfl rfl rfl ?_
                refine Ops.gn rfl rfl rfl rfl rfl ?_
                refine Ops.gn rfl rfl rfl rfl rfl ?_
                refine Ops.gn rfl rfl rfl rfl rfl ?_
                refine Ops.gn rfl rfl rfl rfl rfl ?_
                refine Ops.u (Dtu.pickT (lk rfl) (lk rfl)) rfl ?_
                refine Ops.u (Dtu.mv (lk rfl)) rfl ?_
                refine Ops.gn rfl rfl rfl rfl rfl ?_
                refine Ops.gn rfl rfl rfl rfl rfl ?_
                refine Ops.gn rfl rfl rfl rfl rfl ?_
                refine Ops.gn rfl rfl rfl rfl rfl ?_
                refine Ops.gn rfl rfl rfl rfl rfl ?_
                refine Ops.gn rfl rfl rfl rfl rfl ?_
                refine Ops.gn rfl rfl rfl rfl rfl ?_
                refine Ops.gn rfl rfl rfl rfl rfl ?_
                refine Ops.gn rfl rfl rfl rfl rfl ?_
                refine Ops.u (Dtu.pickT (lk rfl) (lk rfl)) rfl ?_
                refine Ops.u (Dtu.asg (lk rfl)) rfl ?_
                refine Ops.nil ?_
                refine Then.next ?_
                refine Body.condT (lk rfl) ?_
                refine Body.seq ?_
                refine Body.region ?_
                refine Ops.u (Dtu.asg (lk rfl)) rfl ?_
                refine Ops.nil ?_
                refine Then.next ?_
                refine Body.ret ?_
                refine Blk.ret ?_
                refine Then.ret ?_
                (first | exact ⟨.inr rfl, _, pk [] rfl, by rw [View.ok_no (by rw [View.fits_w]; omega)]; rfl, rfl⟩ | exact ⟨.inr rfl, _, pk [] rfl, by rw [View.ok_yes (by rw [View.fits_w]; omega)]; rfl, rfl⟩)
              · refine Ops.gu rfl rfl rfl (Dtu.fld fa24_4 (lk rfl)) rfl ?_
                refine Ops.gd rfl rfl rfl (Det.ld Try.isAgg3 (lk rfl) (Rd.ow 0 rfl rfl)) rfl ?_
                refine Ops.gu rfl rfl rfl (Dtu.fld fa24_1 (lk rfl)) rfl ?_
                refine Ops.gd rfl rfl rfl (Det.ld Try.isAgg3 (lk rfl) (Rd.ow 0 rfl rfl)) rfl ?_
                refine Ops.gu rfl rfl rfl (Dtu.geq (lk rfl) (lk rfl)) rfl ?_
                refine Ops.u (Dtu.pickF (lk rfl) (lk rfl)) rfl ?_
                refine Ops.u (Dtu.mv (lk rfl)) rfl ?_
                refine Ops.decP 45 rfl (fun c45 => ?_) (fun c45 => ?_)
                · refine Ops.gn rfl rfl rfl rfl rfl ?_
                  refine Ops.gn rfl rfl rfl rfl rfl ?_
                  refine Ops.gn rfl rfl rfl rfl rfl ?_
                  refine Ops.gn rfl rfl rfl rfl rfl ?_
                  refine Ops.gn rfl rfl rfl rfl rfl ?_
                  refine Ops.gn rfl rfl rfl rfl rfl ?_
                  refine Ops.gn rfl rfl rfl rfl rfl ?_
                  refine Ops.gn rfl rfl rfl rfl rfl ?_
                  refine Ops.gn rfl rfl rfl rfl rfl ?_
                  refine Ops.u (Dtu.pickT (lk rfl) (lk rfl)) rfl ?_
                  refine Ops.u (Dtu.asg (lk rfl)) rfl ?_
                  refine Ops.nil ?_
                  refine Then.next ?_
                  refine Body.condT (lk rfl) ?_
                  refine Body.seq ?_
                  refine Body.region ?_
                  refine Ops.u (Dtu.asg (lk rfl)) rfl ?_
                  refine Ops.nil ?_
                  refine Then.next ?_
                  refine Body.ret ?_
                  refine Blk.ret ?_
                  refine Then.ret ?_
                  (first | exact ⟨.inr rfl, _, pk [] rfl, by rw [View.ok_no (by rw [View.fits_w]; omega)]; rfl, rfl⟩ | exact ⟨.inr rfl, _, pk [] rfl, by rw [View.ok_yes (by rw [View.fits_w]; omega)]; rfl, rfl⟩)
                · refine Ops.gu rfl rfl rfl (Dtu.fld fa24_2 (lk rfl)) rfl ?_
                  refine Ops.gd rfl rfl rfl (Det.ld Try.isAgg22 (lk rfl) (Rd.ow 0 rfl rfl)) rfl ?_
                  refine Ops.gu rfl rfl rfl (Dtu.lenS Try.underlying22 (Sl.up h) (lk rfl)) rfl ?_
                  refine Ops.gu rfl rfl rfl (Dtu.fld fa24_0 (lk rfl)) rfl ?_
                  refine Ops.gd rfl rfl rfl (Det.ld Try.isAgg3 (lk rfl) (Rd.ow 0 rfl rfl)) rfl ?_
                  refine Ops.gu rfl rfl rfl (Dtu.fld fa24_1 (lk rfl)) rfl ?_
                  refine Ops.gd rfl rfl rfl (Det.ld Try.isAgg3 (lk rfl) (Rd.ow 0 rfl rfl)) rfl ?_
                  refine Ops.gu rfl rfl rfl (Dtu.mul (lk rfl) (lk rfl) rfl) rfl ?_
                  refine Ops.gu rfl rfl rfl (Dtu.neq (lk rfl) (lk rfl)) rfl ?_
                  refine Ops.u (Dtu.pickF (lk rfl) (lk rfl)) rfl ?_
                  refine Ops.u (Dtu.asg (lk rfl)) rfl ?_
                  refine Ops.nil ?_
                  refine Then.next ?_
                  refine Body.condP (lk rfl) (fun c22 => ?_) (fun c22 => ?_)
                  · refine Body.seq ?_
                    refine Body.region ?_
                    refine Ops.u (Dtu.asg (lk rfl)) rfl ?_
                    refine Ops.nil ?_
                    refine Then.next ?_
                    refine Body.ret ?_
                    refine Blk.ret ?_
                    refine Then.ret ?_
                    (first | exact ⟨.inr rfl, _, pk [] rfl, by rw [View.ok_no (by rw [View.fits_w]; omega)]; rfl, rfl⟩ | exact ⟨.inr rfl, _, pk [] rfl, by rw [View.ok_yes (by rw [View.fits_w]; omega)]; rfl, rfl⟩)
                  · refine Body.skip ?_
                    refine Blk.norm ?_
                    refine Then.next ?_
                    refine Body.seq ?_
                    refine Body.region ?_
                    refine Ops.u (Dtu.fld fa24_2 (lk rfl)) rfl ?_
                    refine Ops.d (Det.ld Try.isAgg22 (lk rfl) (Rd.ow 0 rfl rfl)) rfl ?_
                    refine Ops.s (Stp.call rfl Try.call68 (lks rfl) (fun E' le hat => containsC_ok E' _ _ (fun c => !c.ok) _ Try.call69 (fun E c => right1_ok E c) (Sl.mono (by assumption) le)) ?_) rfl
                    rintro _ _ ⟨rfl, rfl⟩
                    refine Ops.u (Dtu.not (lk rfl)) rfl ?_
                    refine Ops.u (Dtu.asg (lk rfl)) rfl ?_
                    refine Ops.nil ?_
                    refine Then.next ?_
                    refine Body.ret ?_
                    (first | exact ⟨.inr rfl, _, pk [] rfl, by rw [View.ok_no (by rw [View.fits_w]; omega)]; rfl, rfl⟩ | exact ⟨.inr rfl, _, pk [] rfl, by rw [View.ok_yes (by rw [View.fits_w]; omega)]; rfl, rfl⟩)
end Go.Proofs.Ytijjjdljdjnbaaa
