/- Qc: Vint, VintB, Slices, Cell, View, CellB, ViewB, Write, ReadC, Byts, Read, Alive20. -/
import Derived.Test.YtijjjdljdjnbaaaRsa
import Derived.Test.YtijjjdljdjnbaaaRsb
section
/- Numbers in one, two, four or eight bytes: what the functions of package vint come to. -/
namespace Go.Proofs.Ytijjjdljdjnbaaa
set_option maxRecDepth 100000
set_option linter.unusedVariables false
set_option linter.unusedSimpArgs false
open Go.Sx

def classS (v : Int) : Nat := if v < 64 then 0 else if v < 16384 then 1 else if v < 1073741824 then 2 else if v < 4611686018427387904 then 3 else 4
/-- how many bytes a number has; 0: it has none -/
def sizeS (v : Int) : Nat := if classS v = 4 then 0 else 2 ^ classS v
/-- the j-th of n bytes, the highest first -/
def byteAt (v : Int) (n j : Nat) : Int := v / 256 ^ (n - 1 - j) % 256
def putL (v : Int) : List Int := (List.range (sizeS v)).map fun j => byteAt v (sizeS v) j + if j = 0 then 64 * (classS v : Int) else 0
end Go.Proofs.Ytijjjdljdjnbaaa
end
section
/- What a number's bytes are read as. -/
namespace Go.Proofs.Ytijjjdljdjnbaaa
set_option maxRecDepth 100000
set_option linter.unusedVariables false
set_option linter.unusedSimpArgs false
open Go.Sx

/-- bytes -/
def Byt (bs : List Int) : Prop := ∀ i, i < bs.length → 0 ≤ bs[i]! ∧ bs[i]! < 256
end Go.Proofs.Ytijjjdljdjnbaaa
end
section
/- The library's functions on slices, at this seat's types. -/
namespace Go.Proofs.Ytijjjdljdjnbaaa
set_option maxRecDepth 100000
set_option linter.unusedVariables false
set_option linter.unusedSimpArgs false
open Go.Sx

/-- slices.Clone at one type -/
theorem cloneC_ok (E : Env) (v : Value) (m : Nat) (vs : List Value) (h : Sl E [] 4 v m vs) (h1 : vs.all (·.oneCell') = true) (hb : m * 16 ≤ 140737488355328) : Does Try.prog 99 #[v] E [] fun r H' => H' = [osl 55 4 r m vs] ∧ IsSl r := by
  refine Does.go (args := [v]) _ _ Try.func99 rfl Try.ntmps99 rfl rfl ?_
  refine Body.seq ?_
  refine Body.region ?_
  refine Ops.u (Dtu.asg (lk rfl)) rfl ?_
  refine Ops.nil ?_
  refine Then.next ?_
  refine Body.seq ?_
  refine Body.seq ?_
  refine Body.region ?_
  refine Ops.u (Dtu.mv (lk rfl)) rfl ?_
  refine Ops.u (Dtu.nilS Try.underlying22 (Sl.up h) (lk rfl)) rfl ?_
  refine Ops.nil ?_
  refine Then.next ?_
  refine Body.cond (lk rfl) (fun c4 => ?_) (fun c4 => ?_)
  · refine Body.pure (h.nil0 c4) ?_
    rintro ⟨rfl, rfl⟩
    refine Body.seq ?_
    refine Body.region ?_
    refine Ops.u (Dtu.asg (lk rfl)) rfl ?_
    refine Ops.nil ?_
    refine Then.next ?_
    refine Body.ret ?_
    refine Then.ret ?_
    exact ⟨.inr rfl, _, fun w s => osl_nil (pk [] rfl w s), rfl, ⟨_, _, _, rfl⟩⟩
  · refine Body.pure h.len ?_
    rintro ⟨hl, hm⟩
    refine Body.skip ?_
    refine Then.next ?_
    refine Body.seq ?_
    refine Body.region ?_
    refine Ops.s (Stp.buildSlice0 Try.underlying22 ty55 (fun b5 => ?_)) rfl
    refine Ops.u (Dtu.mv (lk rfl)) rfl ?_
    refine Ops.s (Stp.appendNew Try.underlying22 ty55 rfl (lk rfl) (lk rfl) h.up h1 hb hm (fun v7 => ?_)) rfl
    refine Ops.pure (Sl.isSl (Sl.osl 0 rfl)) fun hsl => ?_
    refine Ops.u (Dtu.asg (lk rfl)) rfl ?_
    refine Ops.nil ?_
    refine Then.next ?_
    refine Body.ret ?_
    exact ⟨.inr rfl, _, pk [0] rfl, rfl, hsl⟩

end Go.Proofs.Ytijjjdljdjnbaaa
end
section
/- A cell and a style: which may be, and their bytes. -/
namespace Go.Proofs.Ytijjjdljdjnbaaa
set_option maxRecDepth 100000
set_option linter.unusedVariables false
set_option linter.unusedSimpArgs false
open Go.Sx

def isPt (p : Int) : Bool := decide (0 ≤ p ∧ p ≤ 1114111 ∧ (p < 55296 ∨ 57343 < p))
def isCol (c : Int) : Bool := decide (c = 0 ∨ (16777216 ≤ c ∧ c ≤ 16777471) ∨ (33554432 ≤ c ∧ c < 50331648))
theorem bool_eq {a b : Bool} (h : a = true ↔ b = true) : Value.bool a = Value.bool b := by
  congr 1; cases a <;> cases b <;> simp_all
theorem utfIs_ok (E : Env) (p : Int) : Does Try.prog 107 #[.int .i32 p] E [] fun r H' => r = .bool (isPt p) ∧ H' = [] := by
  refine Does.go (args := [.int .i32 p]) _ _ Try.func107 rfl Try.ntmps107 rfl rfl ?_
  refine Body.seq ?_
  refine Body.region ?_
  refine Ops.u (Dtu.asg (lk rfl)) rfl ?_
  refine Ops.nil ?_
  refine Then.next ?_
  refine Body.seq ?_
  refine Body.region ?_
  refine Ops.u (Dtu.mv (lk rfl)) rfl ?_
  refine Ops.u (Dtu.geq (lk rfl) (lk rfl)) rfl ?_
  refine Ops.u (Dtu.mv (lk rfl)) rfl ?_
  refine Ops.decP 5 rfl (fun c5 => ?_) (fun c5 => ?_)
  · refine Ops.gu rfl rfl rfl (Dtu.mv (lk rfl)) rfl ?_
    refine Ops.gu rfl rfl rfl (Dtu.leq (lk rfl) (lk rfl)) rfl ?_
    refine Ops.u (Dtu.pickT (lk rfl) (lk rfl)) rfl ?_
    refine Ops.u (Dtu.mv (lk rfl)) rfl ?_
    refine Ops.decP 9 rfl (fun c9 => ?_) (fun c9 => ?_)
    · refine Ops.gu rfl rfl rfl (Dtu.mv (lk rfl)) rfl ?_
      refine Ops.gu rfl rfl rfl (Dtu.lss (lk rfl) (lk rfl)) rfl ?_
      refine Ops.gu rfl rfl rfl (Dtu.mv (lk rfl)) rfl ?_
      refine Ops.decP 12 rfl (fun c12 => ?_) (fun c12 => ?_)
      · refine Ops.gn rfl rfl rfl rfl rfl ?_
        refine Ops.gn rfl rfl rfl rfl rfl ?_
        refine Ops.gu rfl rfl rfl (Dtu.pickT (lk rfl) (lk rfl)) rfl ?_
        refine Ops.u (Dtu.pickT (lk rfl) (lk rfl)) rfl ?_
        refine Ops.u (Dtu.asg (lk rfl)) rfl ?_
        refine Ops.nil ?_
        refine Then.next ?_
        refine Body.ret ?_
        (refine ⟨.inr rfl, _, pk [] rfl, bool_eq ?_, rfl⟩; simp [isPt]; omega)
      · refine Ops.gu rfl rfl rfl (Dtu.mv (lk rfl)) rfl ?_
        refine Ops.gu rfl rfl rfl (Dtu.gtr (lk rfl) (lk rfl)) rfl ?_
        refine Ops.gu rfl rfl rfl (Dtu.pickF (lk rfl) (lk rfl)) rfl ?_
        refine Ops.u (Dtu.pickT (lk rfl) (lk rfl)) rfl ?_
        refine Ops.u (Dtu.asg (lk rfl)) rfl ?_
        refine Ops.nil ?_
        refine Then.next ?_
        refine Body.ret ?_
        (refine ⟨.inr rfl, _, pk [] rfl, bool_eq ?_, rfl⟩; simp [isPt]; omega)
    · refine Ops.gn rfl rfl rfl rfl rfl ?_
      refine Ops.gn rfl rfl rfl rfl rfl ?_
      refine Ops.gn rfl rfl rfl rfl rfl ?_
      refine Ops.gn rfl rfl rfl rfl rfl ?_
      refine Ops.gn rfl rfl rfl rfl rfl ?_
      refine Ops.gn rfl rfl rfl rfl rfl ?_
      refine Ops.u (Dtu.pickF (lk rfl) (lk rfl)) rfl ?_
      refine Ops.u (Dtu.asg (lk rfl)) rfl ?_
      refine Ops.nil ?_
      refine Then.next ?_
      refine Body.ret ?_
      (refine ⟨.inr rfl, _, pk [] rfl, bool_eq ?_, rfl⟩; simp [isPt]; omega)
  · refine Ops.gn rfl rfl rfl rfl rfl ?_
    refine Ops.gn rfl rfl rfl rfl rfl ?_
    refine Ops.u (Dtu.pickF (lk rfl) (lk rfl)) rfl ?_
    refine Ops.u (Dtu.mv (lk rfl)) rfl ?_
    refine Ops.gn rfl rfl rfl rfl rfl ?_
    refine Ops.gn rfl rfl rfl rfl rfl ?_
    refine Ops.gn rfl rfl rfl rfl rfl ?_
    refine Ops.gn rfl rfl rfl rfl rfl ?_
    refine Ops.gn rfl rfl rfl rfl rfl ?_
    refine Ops.gn rfl rfl rfl rfl rfl ?_
    refine Ops.u (Dtu.pickF (lk rfl) (lk rfl)) rfl ?_
    refine Ops.u (Dtu.asg (lk rfl)) rfl ?_
    refine Ops.nil ?_
    refine Then.next ?_
    refine Body.ret ?_
    (refine ⟨.inr rfl, _, pk [] rfl, bool_eq ?_, rfl⟩; simp [isPt]; omega)
theorem isColour_ok (E : Env) (c : Int) : Does Try.prog 127 #[.int .u32 c] E [] fun r H' => r = .bool (isCol c) ∧ H' = [] := by
  refine Does.go (args := [.int .u32 c]) _ _ Try.func127 rfl Try.ntmps127 rfl rfl ?_
  refine Body.seq ?_
  refine Body.region ?_
  refine Ops.u (Dtu.asg (lk rfl)) rfl ?_
  refine Ops.nil ?_
  refine Then.next ?_
  refine Body.seq ?_
  refine Body.region ?_
  refine Ops.u (Dtu.mv (lk rfl)) rfl ?_
  refine Ops.u (Dtu.eql (lk rfl) (lk rfl)) rfl ?_
  refine Ops.u (Dtu.mv (lk rfl)) rfl ?_
  refine Ops.decP 5 rfl (fun c5 => ?_) (fun c5 => ?_)
  · refine Ops.gn rfl rfl rfl rfl rfl ?_
    refine Ops.gn rfl rfl rfl rfl rfl ?_
    refine Ops.gn rfl rfl rfl rfl rfl ?_
    refine Ops.gn rfl rfl rfl rfl rfl ?_
    refine Ops.gn rfl rfl rfl rfl rfl ?_
    refine Ops.gn rfl rfl rfl rfl rfl ?_
    refine Ops.u (Dtu.pickT (lk rfl) (lk rfl)) rfl ?_
    refine Ops.u (Dtu.mv (lk rfl)) rfl ?_
    refine Ops.gn rfl rfl rfl rfl rfl ?_
    refine Ops.gn rfl rfl rfl rfl rfl ?_
    refine Ops.gn rfl rfl rfl rfl rfl ?_
    refine Ops.gn rfl rfl rfl rfl rfl ?_
    refine Ops.gn rfl rfl rfl rfl rfl ?_
    refine Ops.gn rfl rfl rfl rfl rfl ?_
    refine Ops.u (Dtu.pickT (lk rfl) (lk rfl)) rfl ?_
    refine Ops.u (Dtu.asg (lk rfl)) rfl ?_
    refine Ops.nil ?_
    refine Then.next ?_
    refine Body.ret ?_
    (refine ⟨.inr rfl, _, pk [] rfl, bool_eq ?_, rfl⟩; simp [isCol]; omega)
  · refine Ops.gu rfl rfl rfl (Dtu.mv (lk rfl)) rfl ?_
    refine Ops.gu rfl rfl rfl (Dtu.geq (lk rfl) (lk rfl)) rfl ?_
    refine Ops.gu rfl rfl rfl (Dtu.mv (lk rfl)) rfl ?_
    refine Ops.decP 8 rfl (fun c8 => ?_) (fun c8 => ?_)
    · refine Ops.gu rfl rfl rfl (Dtu.mv (lk rfl)) rfl ?_
      refine Ops.gu rfl rfl rfl (Dtu.leq (lk rfl) (lk rfl)) rfl ?_
      refine Ops.gu rfl rfl rfl (Dtu.pickT (lk rfl) (lk rfl)) rfl ?_
      refine Ops.u (Dtu.pickF (lk rfl) (lk rfl)) rfl ?_
      refine Ops.u (Dtu.mv (lk rfl)) rfl ?_
      refine Ops.decP 13 rfl (fun c13 => ?_) (fun c13 => ?_)
      · refine Ops.gn rfl rfl rfl rfl rfl ?_
        refine Ops.gn rfl rfl rfl rfl rfl ?_
        refine Ops.gn rfl rfl rfl rfl rfl ?_
        refine Ops.gn rfl rfl rfl rfl rfl ?_
        refine Ops.gn rfl rfl rfl rfl rfl ?_
        refine Ops.gn rfl rfl rfl rfl rfl ?_
        refine Ops.u (Dtu.pickT (lk rfl) (lk rfl)) rfl ?_
        refine Ops.u (Dtu.asg (lk rfl)) rfl ?_
        refine Ops.nil ?_
        refine Then.next ?_
        refine Body.ret ?_
        (refine ⟨.inr rfl, _, pk [] rfl, bool_eq ?_, rfl⟩; simp [isCol]; omega)
      · refine Ops.gu rfl rfl rfl (Dtu.mv (lk rfl)) rfl ?_
        refine Ops.gu rfl rfl rfl (Dtu.geq (lk rfl) (lk rfl)) rfl ?_
        refine Ops.gu rfl rfl rfl (Dtu.mv (lk rfl)) rfl ?_
        refine Ops.decP 16 rfl (fun c16 => ?_) (fun c16 => ?_)
        · refine Ops.gu rfl rfl rfl (Dtu.mv (lk rfl)) rfl ?_
          refine Ops.gu rfl rfl rfl (Dtu.lss (lk rfl) (lk rfl)) rfl ?_
          refine Ops.gu rfl rfl rfl (Dtu.pickT (lk rfl) (lk rfl)) rfl ?_
          refine Ops.u (Dtu.pickF (lk rfl) (lk rfl)) rfl ?_
          refine Ops.u (Dtu.asg (lk rfl)) rfl ?_
          refine Ops.nil ?_
          refine Then.next ?_
          refine Body.ret ?_
          (refine ⟨.inr rfl, _, pk [] rfl, bool_eq ?_, rfl⟩; simp [isCol]; omega)
        · refine Ops.gn rfl rfl rfl rfl rfl ?_
          refine Ops.gn rfl rfl rfl rfl rfl ?_
          refine Ops.gu rfl rfl rfl (Dtu.pickF (lk rfl) (lk rfl)) rfl ?_
          refine Ops.u (Dtu.pickF (lk rfl) (lk rfl)) rfl ?_
          refine Ops.u (Dtu.asg (lk rfl)) rfl ?_
          refine Ops.nil ?_
          refine Then.next ?_
          refine Body.ret ?_
          (refine ⟨.inr rfl, _, pk [] rfl, bool_eq ?_, rfl⟩; simp [isCol]; omega)
    · refine Ops.gn rfl rfl rfl rfl rfl ?_
      refine Ops.gn rfl rfl rfl rfl rfl ?_
      refine Ops.gu rfl rfl rfl (Dtu.pickF (lk rfl) (lk rfl)) rfl ?_
      refine Ops.u (Dtu.pickF (lk rfl) (lk rfl)) rfl ?_
      refine Ops.u (Dtu.mv (lk rfl)) rfl ?_
      refine Ops.gu rfl rfl rfl (Dtu.mv (lk rfl)) rfl ?_
      refine Ops.gu rfl rfl rfl (Dtu.geq (lk rfl) (lk rfl)) rfl ?_
      refine Ops.gu rfl rfl rfl (Dtu.mv (lk rfl)) rfl ?_
      refine Ops.decP 16 rfl (fun hy => absurd hy (by first | omega | assumption | decide)) (fun _ => ?_)
      refine Ops.gn rfl rfl rfl rfl rfl ?_
      refine Ops.gn rfl rfl rfl rfl rfl ?_
      refine Ops.gu rfl rfl rfl (Dtu.pickF (lk rfl) (lk rfl)) rfl ?_
      refine Ops.u (Dtu.pickF (lk rfl) (lk rfl)) rfl ?_
      refine Ops.u (Dtu.asg (lk rfl)) rfl ?_
      refine Ops.nil ?_
      refine Then.next ?_
      refine Body.ret ?_
      (refine ⟨.inr rfl, _, pk [] rfl, bool_eq ?_, rfl⟩; simp [isCol]; omega)
structure Cell where
  pt : Int
  fl : Int
  fg : Int
  bg : Int
  deriving DecidableEq, Inhabited
def Cell.enc (c : Cell) : List Value := [.int .i32 c.pt, .int .u8 c.fl, .int .u32 c.fg, .int .u32 c.bg]
/-- what a cell's memory may hold -/
def Cell.In (c : Cell) : Prop := 0 ≤ c.fl ∧ c.fl < 256 ∧ 0 ≤ c.fg ∧ c.fg < 4294967296 ∧ 0 ≤ c.bg ∧ c.bg < 4294967296
def okSty (fg bg : Int) : Bool := isCol fg && isCol bg
def okCell (pt fg bg : Int) : Bool := isPt pt && okSty fg bg
abbrev Cell.ok (c : Cell) : Bool := okCell c.pt c.fg c.bg
theorem styleRight_ok (E : Env) (fl fg bg : Int) : Does Try.prog 108 #[.agg #[.int .u8 fl, .int .u32 fg, .int .u32 bg]] E [] fun r H' => r = .bool (okSty fg bg) ∧ H' = [] := by
  refine Does.go (args := [.agg #[.int .u8 fl, .int .u32 fg, .int .u32 bg]]) _ _ Try.func108 rfl Try.ntmps108 rfl rfl ?_
  refine Body.seq ?_
  refine Body.region ?_
  refine Ops.s (Stp.box (lk rfl) rfl (fun b1 => ?_)) rfl
  refine Ops.u (Dtu.asg (lk rfl)) rfl ?_
  refine Ops.nil ?_
  refine Then.next ?_
  refine Body.seq ?_
  refine Body.region ?_
  refine Ops.u (Dtu.fld fa53_1 (lk rfl)) rfl ?_
  refine Ops.d (Det.ld Try.isAgg51 (lk rfl) (Rd.ow 0 rfl rfl)) rfl ?_
  refine Ops.s (Stp.call rfl Try.call127 (lks rfl) (fun E' le hat => isColour_ok E' _) ?_) rfl
  rintro _ _ ⟨rfl, rfl⟩
  refine Ops.u (Dtu.mv (lk rfl)) rfl ?_
  refine Ops.dec 6 rfl (fun c6 => ?_) (fun c6 => ?_)
  · refine Ops.gu rfl rfl rfl (Dtu.fld fa53_2 (lk rfl)) rfl ?_
    refine Ops.gd rfl rfl rfl (Det.ld Try.isAgg51 (lk rfl) (Rd.ow 0 rfl rfl)) rfl ?_
    refine Ops.gs rfl rfl rfl (Stp.call rfl Try.call127 (lks rfl) (fun E' le hat => isColour_ok E' _) ?_) rfl
    rintro _ _ ⟨rfl, rfl⟩
    refine Ops.u (Dtu.pickT (lk rfl) (lk rfl)) rfl ?_
    refine Ops.u (Dtu.asg (lk rfl)) rfl ?_
    refine Ops.nil ?_
    refine Then.next ?_
    refine Body.ret ?_
    (refine ⟨.inr rfl, _, pk [] rfl, bool_eq ?_, rfl⟩; simp [okSty, *])
  · refine Ops.gn rfl rfl rfl rfl rfl ?_
    refine Ops.gn rfl rfl rfl rfl rfl ?_
    refine Ops.gn rfl rfl rfl rfl rfl ?_
    refine Ops.u (Dtu.pickF (lk rfl) (lk rfl)) rfl ?_
    refine Ops.u (Dtu.asg (lk rfl)) rfl ?_
    refine Ops.nil ?_
    refine Then.next ?_
    refine Body.ret ?_
    (refine ⟨.inr rfl, _, pk [] rfl, bool_eq ?_, rfl⟩; simp [okSty, *])
theorem isCell_ok (E : Env) (pt fl fg bg : Int) : Does Try.prog 70 #[.agg #[.int .i32 pt, .int .u8 fl, .int .u32 fg, .int .u32 bg]] E [] fun r H' => r = .bool (okCell pt fg bg) ∧ H' = [] := by
  refine Does.go (args := [.agg #[.int .i32 pt, .int .u8 fl, .int .u32 fg, .int .u32 bg]]) _ _ Try.func70 rfl Try.ntmps70 rfl rfl ?_
  refine Body.seq ?_
  refine Body.region ?_
  refine Ops.s (Stp.box (lk rfl) rfl (fun b1 => ?_)) rfl
  refine Ops.u (Dtu.asg (lk rfl)) rfl ?_
  refine Ops.nil ?_
  refine Then.next ?_
  refine Body.seq ?_
  refine Body.region ?_
  refine Ops.u (Dtu.fld fa55_0 (lk rfl)) rfl ?_
  refine Ops.d (Det.ld Try.isAgg21 (lk rfl) (Rd.ow 0 rfl rfl)) rfl ?_
  refine Ops.s (Stp.call rfl Try.call107 (lks rfl) (fun E' le hat => utfIs_ok E' _) ?_) rfl
  rintro _ _ ⟨rfl, rfl⟩
  refine Ops.u (Dtu.mv (lk rfl)) rfl ?_
  refine Ops.dec 6 rfl (fun c6 => ?_) (fun c6 => ?_)
  · refine Ops.gu rfl rfl rfl (Dtu.fld fa55_1 (lk rfl)) rfl ?_
    refine Ops.gd rfl rfl rfl (Det.lda Try.isAgg53 Try.sizeOf53 (lk rfl) (Rds.ow (m := 3) 0 rfl rfl) rfl) rfl ?_
    refine Ops.gs rfl rfl rfl (Stp.call rfl Try.call108 (lks rfl) (fun E' le hat => styleRight_ok E' _ _ _) ?_) rfl
    rintro _ _ ⟨rfl, rfl⟩
    refine Ops.u (Dtu.pickT (lk rfl) (lk rfl)) rfl ?_
    refine Ops.u (Dtu.asg (lk rfl)) rfl ?_
    refine Ops.nil ?_
    refine Then.next ?_
    refine Body.ret ?_
    (refine ⟨.inr rfl, _, pk [] rfl, bool_eq ?_, rfl⟩; simp [okCell, *])
  · refine Ops.gn rfl rfl rfl rfl rfl ?_
    refine Ops.gn rfl rfl rfl rfl rfl ?_
    refine Ops.gn rfl rfl rfl rfl rfl ?_
    refine Ops.u (Dtu.pickF (lk rfl) (lk rfl)) rfl ?_
    refine Ops.u (Dtu.asg (lk rfl)) rfl ?_
    refine Ops.nil ?_
    refine Then.next ?_
    refine Body.ret ?_
    (refine ⟨.inr rfl, _, pk [] rfl, bool_eq ?_, rfl⟩; simp [okCell, *])
end Go.Proofs.Ytijjjdljdjnbaaa
end
section
/- Views: which may be. -/
namespace Go.Proofs.Ytijjjdljdjnbaaa
set_option maxRecDepth 100000
set_option linter.unusedVariables false
set_option linter.unusedSimpArgs false
open Go.Sx

/-- the first place at which p holds; -1: nowhere -/
def firstAt {α : Type} (p : α → Bool) (l : List α) : Int := match l.findIdx? p with
  | some i => i
  | none => -1
theorem firstAt_some {α : Type} [Inhabited α] {p : α → Bool} {l : List α} {i : Nat} (h : i < l.length) (h1 : p l[i]! = true) (h2 : ∀ j, j < i → p l[j]! = false) : firstAt p l = i := by
  have : l.findIdx? p = some i := by
    rw [List.findIdx?_eq_some_iff_getElem]
    refine ⟨h, by rw [getElem!_pos l i h] at h1; exact h1, fun j hj => ?_⟩
    have := h2 j hj
    rw [getElem!_pos l j (by omega)] at this
    simp [this]
  simp [firstAt, this]
theorem firstAt_none {α : Type} [Inhabited α] {p : α → Bool} {l : List α} (h2 : ∀ j, j < l.length → p l[j]! = false) : firstAt p l = -1 := by
  have : l.findIdx? p = none := by
    rw [List.findIdx?_eq_none_iff]
    intro x hx
    obtain ⟨j, hj, rfl⟩ := List.getElem_of_mem hx
    have := h2 j hj
    rwa [getElem!_pos l j hj] at this
  simp [firstAt, this]
theorem firstAt_any {α : Type} (p : α → Bool) (l : List α) : decide (0 ≤ firstAt p l) = l.any p := by
  cases h : l.findIdx? p with
  | none =>
    rw [List.findIdx?_eq_none_iff] at h
    have : l.any p = false := by simpa using h
    simp [firstAt, List.findIdx?_eq_none_iff.2 h, this]
  | some i =>
    have h' := h
    rw [List.findIdx?_eq_some_iff_getElem] at h
    obtain ⟨hi, h1, _⟩ := h
    have : l.any p = true := by rw [List.any_eq_true]; exact ⟨_, List.getElem_mem hi, h1⟩
    simp [firstAt, h', this]
theorem indexC_ok (E : Env) (s : Value) (cs : List Cell) (p : Cell → Bool) (fn : FuncId) (hcall : ∀ args w, (callFunc fn args).run Try.prog w = .ok (.enter fn args) w) (hp : ∀ E c, Does Try.prog fn #[.agg c.enc.toArray] E [] fun r H' => r = .bool (p c) ∧ H' = [])
    (h : Sl E [] 4 s cs.length (cs.flatMap Cell.enc)) : Does Try.prog 106 #[s, .func (.func fn) #[] #[]] E [] fun r H' => r = .int .i64 (firstAt p cs) ∧ H' = [] := by
  refine Does.pure h.len fun hlen => ?_
  refine Does.go (args := [s, .func (.func fn) #[] #[]]) _ _ Try.func106 rfl Try.ntmps106 rfl rfl ?_
  refine Body.seq ?_
  refine Body.region ?_
  refine Ops.u (Dtu.asg (lk rfl)) rfl ?_
  refine Ops.nil ?_
  refine Then.next ?_
  refine Body.seq ?_
  refine Body.seq ?_
  refine Body.region ?_
  refine Ops.u (Dtu.mv (lk rfl)) rfl ?_
  refine Ops.u (Dtu.lenS Try.underlying22 (Sl.up h) (lk rfl)) rfl ?_
  refine Ops.u (Dtu.mv (lk rfl)) rfl ?_
  refine Ops.nil ?_
  refine Then.next ?_
  refine Body.block ?_
  refine Body.loopF (γ := Nat) rfl (fun k => [(8, .int .i64 k)]) (fun _ => []) (fun k => k ≤ cs.length ∧ ∀ j, j < k → p cs[j]! = false) (fun k => cs.length - k) 0 ⟨by omega, fun j hj => by omega⟩ ⟨rfl, trivial⟩ rfl ?_
  rintro k u ⟨hk, hb⟩
  refine Body.seq ?_
  refine Body.region ?_
  refine Ops.u (Dtu.lss (lk rfl) (lk rfl)) rfl ?_
  refine Ops.nil ?_
  refine Then.next ?_
  refine Body.seq ?_
  refine Body.condP (lk rfl) (fun c9 => ?_) (fun c9 => ?_)
  · refine Body.skip ?_
    refine Then.next ?_
    refine Body.seq ?_
    refine Body.block ?_
    refine Body.seq ?_
    refine Body.region ?_
    refine Ops.u (Dtu.mv (lk rfl)) rfl ?_
    refine Ops.u (Dtu.asg (lk rfl)) rfl ?_
    refine Ops.nil ?_
    refine Then.next ?_
    refine Body.seq ?_
    refine Body.region ?_
    refine Ops.u (Dtu.mv (lk rfl)) rfl ?_
    refine Ops.u (Dtu.mv (lk rfl)) rfl ?_
    refine Ops.u (Dtu.mv (lk rfl)) rfl ?_
    refine Ops.u (Dtu.ix (i := (k)) Try.underlying22 Try.sizeOf55 (Sl.up h) (lk rfl) (lk rfl) (by omega) (by omega)) rfl ?_
    refine Ops.d (Det.lda Try.isAgg55 Try.sizeOf55 (lk rfl) (Rds.sl (Sl.up h) (gf (sz := 4) (fun _ => rfl) (by omega))) rfl) rfl ?_
    refine Ops.s (Stp.call rfl hcall (lks rfl) (fun E' le hat => hp E' cs[k]!) ?_) rfl
    rintro _ _ ⟨rfl, rfl⟩
    refine Ops.nil ?_
    refine Then.next ?_
    refine Body.cond (lk rfl) (fun c16 => ?_) (fun c16 => ?_)
    · refine Body.seq ?_
      refine Body.region ?_
      refine Ops.u (Dtu.mv (lk rfl)) rfl ?_
      refine Ops.u (Dtu.asg (lk rfl)) rfl ?_
      refine Ops.nil ?_
      refine Then.next ?_
      refine Body.ret ?_
      refine Blk.ret ?_
      refine Then.ret ?_
      refine Round.ret ?_
      refine Blk.ret ?_
      refine Then.ret ?_
      exact ⟨.inr rfl, _, pk [] rfl, by rw [firstAt_some (by omega) c16 hb]; rfl, rfl⟩
    · refine Body.skip ?_
      refine Blk.norm ?_
      refine Then.next ?_
      refine Body.region ?_
      refine Ops.u (Dtu.add (lk rfl) (lk rfl) (w64 (by omega) (by omega))) rfl ?_
      refine Ops.u (Dtu.mv (lk rfl)) rfl ?_
      refine Ops.nil ?_
      refine Round.goF (k + 1) rfl rfl rfl ⟨int_eq (by omega), trivial⟩ rfl ⟨by omega, fun j hj => ?_⟩ (by omega)
      by_cases e : j = k
      · subst e; exact c16
      · exact hb j (by omega)
  · refine Body.exit ?_
    refine Then.exit ?_
    refine Round.exit ?_
    refine Blk.here ?_
    refine Then.next ?_
    refine Body.seq ?_
    refine Body.region ?_
    refine Ops.u (Dtu.asg (lk rfl)) rfl ?_
    refine Ops.nil ?_
    refine Then.next ?_
    refine Body.ret ?_
    exact ⟨.inr rfl, _, pk [] rfl, by rw [firstAt_none (fun j hj => hb j (by omega))]; rfl, rfl⟩
theorem containsC_ok (E : Env) (s : Value) (cs : List Cell) (p : Cell → Bool) (fn : FuncId) (hcall : ∀ args w, (callFunc fn args).run Try.prog w = .ok (.enter fn args) w) (hp : ∀ E c, Does Try.prog fn #[.agg c.enc.toArray] E [] fun r H' => r = .bool (p c) ∧ H' = [])
    (h : Sl E [] 4 s cs.length (cs.flatMap Cell.enc)) : Does Try.prog 68 #[s, .func (.func fn) #[] #[]] E [] fun r H' => r = .bool (cs.any p) ∧ H' = [] := by
  refine Does.go (args := [s, .func (.func fn) #[] #[]]) _ _ Try.func68 rfl Try.ntmps68 rfl rfl ?_
  refine Body.seq ?_
  refine Body.region ?_
  refine Ops.u (Dtu.asg (lk rfl)) rfl ?_
  refine Ops.nil ?_
  refine Then.next ?_
  refine Body.seq ?_
  refine Body.region ?_
  refine Ops.u (Dtu.mv (lk rfl)) rfl ?_
  refine Ops.u (Dtu.mv (lk rfl)) rfl ?_
  refine Ops.s (Stp.call rfl Try.call106 (lks rfl) (fun E' le hat => indexC_ok E' s cs p fn hcall hp (h.mono le)) ?_) rfl
  rintro _ _ ⟨rfl, rfl⟩
  refine Ops.u (Dtu.geq (lk rfl) (lk rfl)) rfl ?_
  refine Ops.u (Dtu.asg (lk rfl)) rfl ?_
  refine Ops.nil ?_
  refine Then.next ?_
  refine Body.ret ?_
  exact ⟨.inr rfl, _, pk [] rfl, by rw [← firstAt_any]; rfl, rfl⟩
theorem right1_ok (E : Env) (c : Cell) : Does Try.prog 69 #[.agg c.enc.toArray] E [] fun r H' => r = .bool (!c.ok) ∧ H' = [] := by
  refine Does.go (args := [.agg c.enc.toArray]) _ _ Try.func69 rfl Try.ntmps69 rfl rfl ?_
  refine Body.seq ?_
  refine Body.region ?_
  refine Ops.s (Stp.box (lk rfl) rfl (fun b1 => ?_)) rfl
  refine Ops.u (Dtu.asg (lk rfl)) rfl ?_
  refine Ops.nil ?_
  refine Then.next ?_
  refine Body.seq ?_
  refine Body.region ?_
  refine Ops.d (Det.lda Try.isAgg55 Try.sizeOf55 (lk rfl) (Rds.ow (m := 4) 0 rfl rfl) rfl) rfl ?_
  refine Ops.s (Stp.call rfl Try.call70 (lks rfl) (fun E' le hat => isCell_ok E' _ _ _ _) ?_) rfl
  rintro _ _ ⟨rfl, rfl⟩
  refine Ops.u (Dtu.not (lk rfl)) rfl ?_
  refine Ops.u (Dtu.asg (lk rfl)) rfl ?_
  refine Ops.nil ?_
  refine Then.next ?_
  refine Body.ret ?_
  exact ⟨.inr rfl, _, pk [] rfl, rfl, rfl⟩

structure View where
  rows : Int
  cols : Int
  cells : List Cell
  row : Int
  col : Int
  vis : Bool
  deriving DecidableEq, Inhabited
def View.val (v : View) (s : Value) : Value := .agg #[.int .i64 v.rows, .int .i64 v.cols, s, .int .i64 v.row, .int .i64 v.col, .bool v.vis]
def View.has (v : View) (E : Env) (H : List HProp) (s : Value) : Prop := Sl E H 4 s v.cells.length (v.cells.flatMap Cell.enc)
def View.fits (v : View) : Prop := (1 ≤ v.rows ∧ v.rows ≤ 12 ∧ 1 ≤ v.cols ∧ v.cols ≤ 40) ∧ 0 ≤ v.row ∧ v.row < v.rows ∧ 0 ≤ v.col ∧ v.col < v.cols ∧ (v.cells.length : Int) = v.rows * v.cols
instance (v : View) : Decidable v.fits := by unfold View.fits; infer_instance
def View.ok (v : View) : Bool := decide v.fits && v.cells.all Cell.ok
theorem mul_bound {a b : Int} (h : 1 ≤ a ∧ a ≤ 12 ∧ 1 ≤ b ∧ b ≤ 40) : 1 ≤ a * b ∧ a * b ≤ 480 :=
  ⟨by have := Int.mul_le_mul h.1 h.2.2.1 (by omega) (by omega : (0:Int) ≤ a); omega, by have := Int.mul_le_mul h.2.1 h.2.2.2 (by omega) (by omega : (0:Int) ≤ 12); omega⟩
theorem wrap_rc {a b : Int} (h : 1 ≤ a ∧ a ≤ 12 ∧ 1 ≤ b ∧ b ≤ 40) : IntKind.i64.wrap (a * b) = a * b := w64 (by have := mul_bound h; omega) (by have := mul_bound h; omega)
theorem View.fits_w {v : View} : v.fits ↔ ((1 ≤ v.rows ∧ v.rows ≤ 12 ∧ 1 ≤ v.cols ∧ v.cols ≤ 40) ∧ 0 ≤ v.row ∧ v.row < v.rows ∧ 0 ≤ v.col ∧ v.col < v.cols ∧ (v.cells.length : Int) = IntKind.i64.wrap (v.rows * v.cols)) := by
  unfold View.fits
  constructor <;> rintro ⟨h, r⟩ <;> refine ⟨h, ?_⟩ <;> have := wrap_rc h <;> omega
theorem View.ok_no {v : View} (h : ¬ v.fits) : v.ok = false := by simp [View.ok, h]
theorem View.ok_yes {v : View} (h : v.fits) : v.ok = !(v.cells.any fun c => !c.ok) := by simp [View.ok, h, List.any_eq_not_all_not]
theorem right_ok (E : Env) (v : View) (s : Value) (h : v.has E [] s) : Does Try.prog 25 #[v.val s] E [] fun r H' => r = .bool v.ok ∧ H' = [] := by
  unfold View.has at h
  refine Does.pure h.len fun hlen => ?_
  refine Does.pure h.isSl fun hsl => ?_
  refine Does.go (args := [v.val s]) _ _ Try.func25 rfl Try.ntmps25 rfl rfl ?_
  refine Body.seq ?_
  refine Body.region ?_
  refine Ops.s (Stp.box (lk rfl) rfl (fun b1 => ?_)) rfl
  refine Ops.u (Dtu.asg (lk rfl)) rfl ?_
  refine Ops.nil ?_
  refine Then.next ?_
  refine Body.seq ?_
  refine Body.block ?_
  refine Body.seq ?_
  refine Body.region ?_
  refine Ops.u (Dtu.fld fa24_0 (lk rfl)) rfl ?_
  refine Ops.d (Det.ld Try.isAgg3 (lk rfl) (Rd.ow 0 rfl rfl)) rfl ?_
  refine Ops.u (Dtu.lss (lk rfl) (lk rfl)) rfl ?_
  refine Ops.u (Dtu.mv (lk rfl)) rfl ?_
  refine Ops.decP 7 rfl (fun c7 => ?_) (fun c7 => ?_)
  · refine Ops.gn rfl rfl rfl rfl rfl ?_
    refine Ops.gn rfl rfl rfl rfl rfl ?_
    refine Ops.gn rfl rfl rfl rfl rfl ?_
    refine Ops.u (Dtu.pickT (lk rfl) (lk rfl)) rfl ?_
    refine Ops.u (Dtu.mv (lk rfl)) rfl ?_
    refine Ops.gn rfl rfl rfl rfl rfl ?_
    refine Ops.gn rfl rfl rfl rfl rfl ?_
    refine Ops.gn rfl rfl rfl rfl rfl ?_
    refine Ops.u (Dtu.pickT (lk rfl) (lk rfl)) rfl ?_
    refine Ops.u (Dtu.mv (lk rfl)) rfl ?_
    refine Ops.gn rfl rfl rfl rfl rfl ?_
    refine Ops.gn rfl rfl rfl rfl rfl ?_
    refine Ops.gn rfl rfl rfl rfl rfl ?_
    refine Ops.u (Dtu.pickT (lk rfl) (lk rfl)) rfl ?_
    refine Ops.u (Dtu.asg (lk rfl)) rfl ?_
    refine Ops.nil ?_
    refine Then.next ?_
    refine Body.condT (lk rfl) ?_
    refine Body.seq ?_
    refine Body.region ?_
    refine Ops.u (Dtu.asg (lk rfl)) rfl ?_
    refine Ops.nil ?_
    refine Then.next ?_
    refine Body.ret ?_
    refine Blk.ret ?_
    refine Then.ret ?_
    (first | exact ⟨.inr rfl, _, pk [] rfl, by rw [View.ok_no (by rw [View.fits_w]; omega)]; rfl, rfl⟩ | exact ⟨.inr rfl, _, pk [] rfl, by rw [View.ok_yes (by rw [View.fits_w]; omega)]; rfl, rfl⟩)
  · refine Ops.gu rfl rfl rfl (Dtu.fld fa24_0 (lk rfl)) rfl ?_
    refine Ops.gd rfl rfl rfl (Det.ld Try.isAgg3 (lk rfl) (Rd.ow 0 rfl rfl)) rfl ?_
    refine Ops.gu rfl rfl rfl (Dtu.gtr (lk rfl) (lk rfl)) rfl ?_
    refine Ops.u (Dtu.pickF (lk rfl) (lk rfl)) rfl ?_
    refine Ops.u (Dtu.mv (lk rfl)) rfl ?_
    refine Ops.decP 12 rfl (fun c12 => ?_) (fun c12 => ?_)
    · refine Ops.gn rfl rfl rfl rfl rfl ?_
      refine Ops.gn rfl rfl rfl rfl rfl ?_
      refine Ops.gn rfl rfl rfl rfl rfl ?_
      refine Ops.u (Dtu.pickT (lk rfl) (lk rfl)) rfl ?_
      refine Ops.u (Dtu.mv (lk rfl)) rfl ?_
      refine Ops.gn rfl rfl rfl rfl rfl ?_
      refine Ops.gn rfl rfl rfl rfl rfl ?_
      refine Ops.gn rfl rfl rfl rfl rfl ?_
      refine Ops.u (Dtu.pickT (lk rfl) (lk rfl)) rfl ?_
      refine Ops.u (Dtu.asg (lk rfl)) rfl ?_
      refine Ops.nil ?_
      refine Then.next ?_
      refine Body.condT (lk rfl) ?_
      refine Body.seq ?_
      refine Body.region ?_
      refine Ops.u (Dtu.asg (lk rfl)) rfl ?_
      refine Ops.nil ?_
      refine Then.next ?_
      refine Body.ret ?_
      refine Blk.ret ?_
      refine Then.ret ?_
      (first | exact ⟨.inr rfl, _, pk [] rfl, by rw [View.ok_no (by rw [View.fits_w]; omega)]; rfl, rfl⟩ | exact ⟨.inr rfl, _, pk [] rfl, by rw [View.ok_yes (by rw [View.fits_w]; omega)]; rfl, rfl⟩)
    · refine Ops.gu rfl rfl rfl (Dtu.fld fa24_1 (lk rfl)) rfl ?_
      refine Ops.gd rfl rfl rfl (Det.ld Try.isAgg3 (lk rfl) (Rd.ow 0 rfl rfl)) rfl ?_
      refine Ops.gu rfl rfl rfl (Dtu.lss (lk rfl) (lk rfl)) rfl ?_
      refine Ops.u (Dtu.pickF (lk rfl) (lk rfl)) rfl ?_
      refine Ops.u (Dtu.mv (lk rfl)) rfl ?_
      refine Ops.decP 17 rfl (fun c17 => ?_) (fun c17 => ?_)
      · refine Ops.gn rfl rfl rfl rfl rfl ?_
        refine Ops.gn rfl rfl rfl rfl rfl ?_
        refine Ops.gn rfl rfl rfl rfl rfl ?_
        refine Ops.u (Dtu.pickT (lk rfl) (lk rfl)) rfl ?_
        refine Ops.u (Dtu.asg (lk rfl)) rfl ?_
        refine Ops.nil ?_
        refine Then.next ?_
        refine Body.condT (lk rfl) ?_
        refine Body.seq ?_
        refine Body.region ?_
        refine Ops.u (Dtu.asg (lk rfl)) rfl ?_
        refine Ops.nil ?_
        refine Then.next ?_
        refine Body.ret ?_
        refine Blk.ret ?_
        refine Then.ret ?_
        (first | exact ⟨.inr rfl, _, pk [] rfl, by rw [View.ok_no (by rw [View.fits_w]; omega)]; rfl, rfl⟩ | exact ⟨.inr rfl, _, pk [] rfl, by rw [View.ok_yes (by rw [View.fits_w]; omega)]; rfl, rfl⟩)
      · refine Ops.gu rfl rfl rfl (Dtu.fld fa24_1 (lk rfl)) rfl ?_
        refine Ops.gd rfl rfl rfl (Det.ld Try.isAgg3 (lk rfl) (Rd.ow 0 rfl rfl)) rfl ?_
        refine Ops.gu rfl rfl rfl (Dtu.gtr (lk rfl) (lk rfl)) rfl ?_
        refine Ops.u (Dtu.pickF (lk rfl) (lk rfl)) rfl ?_
        refine Ops.u (Dtu.asg (lk rfl)) rfl ?_
        refine Ops.nil ?_
        refine Then.next ?_
        refine Body.condP (lk rfl) (fun c3 => ?_) (fun c3 => ?_)
        · refine Body.seq ?_
          refine Body.region ?_
          refine Ops.u (Dtu.asg (lk rfl)) rfl ?_
          refine Ops.nil ?_
          refine Then.next ?_
          refine Body.ret ?_
          refine Blk.ret ?_
          refine Then.ret ?_
          (first | exact ⟨.inr rfl, _, pk [] rfl, by rw [View.ok_no (by rw [View.fits_w]; omega)]; rfl, rfl⟩ | exact ⟨.inr rfl, _, pk [] rfl, by rw [View.ok_yes (by rw [View.fits_w]; omega)]; rfl, rfl⟩)
        · refine Body.seq ?_
          refine Body.region ?_
          refine Ops.u (Dtu.fld fa24_3 (lk rfl)) rfl ?_
          refine Ops.d (Det.ld Try.isAgg3 (lk rfl) (Rd.ow 0 rfl rfl)) rfl ?_
          refine Ops.u (Dtu.lss (lk rfl) (lk rfl)) rfl ?_
          refine Ops.u (Dtu.mv (lk rfl)) rfl ?_
          refine Ops.decP 26 rfl (fun c26 => ?_) (fun c26 => ?_)
          · refine Ops.gn rfl rfl rfl rfl rfl ?_
            refine Ops.gn rfl rfl rfl rfl rfl ?_
            refine Ops.gn rfl rfl rfl rfl rfl ?_
            refine Ops.gn rfl rfl rfl rfl rfl ?_
            refine Ops.gn rfl rfl rfl rfl rfl ?_
            refine Ops.u (Dtu.pickT (lk rfl) (lk rfl)) rfl ?_
            refine Ops.u (Dtu.mv (lk rfl)) rfl ?_
            refine Ops.gn rfl rfl rfl rfl rfl ?_
            refine Ops.gn rfl rfl rfl rfl rfl ?_
            refine Ops.gn rfl rfl rfl rfl rfl ?_
            refine Ops.u (Dtu.pickT (lk rfl) (lk rfl)) rfl ?_
            refine Ops.u (Dtu.mv (lk rfl)) rfl ?_
            refine Ops.gn rfl rfl rfl rfl rfl ?_
            refine Ops.gn rfl rfl rfl rfl rfl ?_
            refine Ops.gn rfl rfl rfl rfl rfl ?_
            refine Ops.gn rfl rfl rfl rfl rfl ?_
            refine Ops.gn rfl rfl rfl rfl rfl ?_
            refine Ops.u (Dtu.pickT (lk rfl) (lk rfl)) rfl ?_
            refine Ops.u (Dtu.mv (lk rfl)) rfl ?_
            refine Ops.gn rfl rfl rfl rfl rfl ?_
            refine Ops.gn rfl rfl rfl rfl rfl ?_
            refine Ops.gn rfl rfl rfl rfl rfl ?_
            refine Ops.gn rfl rfl rfl rfl rfl ?_
            refine Ops.gn rfl rfl rfl rfl rfl ?_
            refine Ops.gn rfl rfl rfl rfl rfl ?_
            refine Ops.gn rfl rfl rfl rfl rfl ?_
            refine Ops.gn rfl rfl rfl rfl rfl ?_
            refine Ops.gn rfl rfl rfl rfl rfl ?_
            refine Ops.u (Dtu.pickT (lk rfl) (lk rfl)) rfl ?_
            refine Ops.u (Dtu.asg (lk rfl)) rfl ?_
            refine Ops.nil ?_
            refine Then.next ?_
            refine Body.condT (lk rfl) ?_
            refine Body.seq ?_
            refine Body.region ?_
            refine Ops.u (Dtu.asg (lk rfl)) rfl ?_
            refine Ops.nil ?_
            refine Then.next ?_
            refine Body.ret ?_
            refine Blk.ret ?_
            refine Then.ret ?_
            (first | exact ⟨.inr rfl, _, pk [] rfl, by rw [View.ok_no (by rw [View.fits_w]; omega)]; rfl, rfl⟩ | exact ⟨.inr rfl, _, pk [] rfl, by rw [View.ok_yes (by rw [View.fits_w]; omega)]; rfl, rfl⟩)
          · refine Ops.gu rfl rfl rfl (Dtu.fld fa24_3 (lk rfl)) rfl ?_
            refine Ops.gd rfl rfl rfl (Det.ld Try.isAgg3 (lk rfl) (Rd.ow 0 rfl rfl)) rfl ?_
            refine Ops.gu rfl rfl rfl (Dtu.fld fa24_0 (lk rfl)) rfl ?_
            refine Ops.gd rfl rfl rfl (Det.ld Try.isAgg3 (lk rfl) (Rd.ow 0 rfl rfl)) rfl ?_
            refine Ops.gu rfl rfl rfl (Dtu.geq (lk rfl) (lk rfl)) rfl ?_
            refine Ops.u (Dtu.pickF (lk rfl) (lk rfl)) rfl ?_
            refine Ops.u (Dtu.mv (lk rfl)) rfl ?_
            refine Ops.decP 33 rfl (fun c33 => ?_) (fun c33 => ?_)
            · refine Ops.gn rfl rfl rfl rfl rfl ?_
              refine Ops.gn rfl rfl rfl rfl rfl ?_
              refine Ops.gn rfl rfl rfl rfl rfl ?_
              refine Ops.u (Dtu.pickT (lk rfl) (lk rfl)) rfl ?_
              refine Ops.u (Dtu.mv (lk rfl)) rfl ?_
              refine Ops.gn rfl rfl rfl rfl rfl ?_
              refine Ops.gn rfl rfl rfl rfl rfl ?_
              refine Ops.gn rfl rfl rfl rfl rfl ?_
              refine Ops.gn rfl rfl rfl rfl rfl ?_
              refine Ops.gn rfl rfl rfl rfl rfl ?_
              refine Ops.u (Dtu.pickT (lk rfl) (lk rfl)) rfl ?_
              refine Ops.u (Dtu.mv (lk rfl)) rfl ?_
              refine Ops.gn rfl rfl rfl rfl rfl ?_
              refine Ops.gn rfl rfl rfl rfl rfl ?_
              refine Ops.gn rfl rfl rfl rfl rfl ?_
              refine Ops.gn rfl rfl rfl rfl rfl ?_
              refine Ops.gn rfl rfl rfl rfl rfl ?_
              refine Ops.gn rfl rfl rfl rfl rfl ?_
              refine Ops.gn rfl rfl rfl rfl rfl ?_
              refine Ops.gn rfl rfl rfl rfl rfl ?_
              refine Ops.gn rfl rfl rfl rfl rfl ?_
              refine Ops.u (Dtu.pickT (lk rfl) (lk rfl)) rfl ?_
              refine Ops.u (Dtu.asg (lk rfl)) rfl ?_
              refine Ops.nil ?_
              refine Then.next ?_
              refine Body.condT (lk rfl) ?_
              refine Body.seq ?_
              refine Body.region ?_
              refine Ops.u (Dtu.asg (lk rfl)) rfl ?_
              refine Ops.nil ?_
              refine Then.next ?_
              refine Body.ret ?_
              refine Blk.ret ?_
              refine Then.ret ?_
              (first | exact ⟨.inr rfl, _, pk [] rfl, by rw [View.ok_no (by rw [View.fits_w]; omega)]; rfl, rfl⟩ | exact ⟨.inr rfl, _, pk [] rfl, by rw [View.ok_yes (by rw [View.fits_w]; omega)]; rfl, rfl⟩)
            · refine Ops.gu rfl rfl rfl (Dtu.fld fa24_4 (lk rfl)) rfl ?_
              refine Ops.gd rfl rfl rfl (Det.ld Try.isAgg3 (lk rfl) (Rd.ow 0 rfl rfl)) rfl ?_
              refine Ops.gu rfl rfl rfl (Dtu.lss (lk rfl) (lk rfl)) rfl ?_
              refine Ops.u (Dtu.pickF (lk rfl) (lk rfl)) rfl ?_
              refine Ops.u (Dtu.mv (lk rfl)) rfl ?_
              refine Ops.decP 38 rfl (fun c38 => ?_) (fun c38 => ?_)
              · refine Ops.gn rfl rfl rfl rfl rfl ?_
                refine Ops.gn rfl rfl rfl rfl rfl ?_
                refine Ops.gn rfl rfl rfl rfl rfl ?_
                refine Ops.gn rfl rfl rfl rfl rfl ?_
                refine Ops.gn rfl rfl rfl rfl rfl ?_
                refine Ops.u (Dtu.pickT (lk rfl) (lk rfl)) rfl ?_
                refine Ops.u (Dtu.mv (lk rfl)) rfl ?_
                refine Ops.gn rfl rfl rfl rfl rfl ?_
                refine Ops.gn rfl rfl rfl rfl rfl ?_
                refine Ops.gn rfl rfl rfl rfl rfl ?_
                refine Ops.gn rfl rfl rfl rfl rfl ?_
                refine Ops.gn rfl rfl rfl rfl rfl ?_
                refine Ops.gn rfl rfl rfl rfl rfl ?_
                refine Ops.gn rfl rfl rfl rfl rfl ?_
                refine Ops.gn rfl rfl rfl rfl rfl ?_
                refine Ops.gn rfl rfl rfl rfl rfl ?_
                refine Ops.u (Dtu.pickT (lk rfl) (lk rfl)) rfl ?_
                refine Ops.u (Dtu.asg (lk rfl)) rfl ?_
                refine Ops.nil ?_
                refine Then.next ?_
                refine Body.condT (lk rfl) ?_
                refine Body.seq ?_
                refine Body.region ?_
                refine Ops.u (Dtu.asg (lk rfl)) rfl ?_
                refine Ops.nil ?_
                refine Then.next ?_
                refine Body.ret ?_
                refine Blk.ret ?_
                refine Then.ret ?_
                (first | exact ⟨.inr rfl, _, pk [] rfl, by rw [View.ok_no (by rw [View.fits_w]; omega)]; rfl, rfl⟩ | exact ⟨.inr rfl, _, pk [] rfl, by rw [View.ok_yes (by rw [View.fits_w]; omega)]; rfl, rfl⟩)
              · refine Ops.gu rfl rfl rfl (Dtu.fld fa24_4 (lk rfl)) rfl ?_
                refine Ops.gd rfl rfl rfl (Det.ld Try.isAgg3 (lk rfl) (Rd.ow 0 rfl rfl)) rfl ?_
                refine Ops.gu rfl rfl rfl (Dtu.fld fa24_1 (lk rfl)) rfl ?_
                refine Ops.gd rfl rfl rfl (Det.ld Try.isAgg3 (lk rfl) (Rd.ow 0 rfl rfl)) rfl ?_
                refine Ops.gu rfl rfl rfl (Dtu.geq (lk rfl) (lk rfl)) rfl ?_
                refine Ops.u (Dtu.pickF (lk rfl) (lk rfl)) rfl ?_
                refine Ops.u (Dtu.mv (lk rfl)) rfl ?_
                refine Ops.decP 45 rfl (fun c45 => ?_) (fun c45 => ?_)
                · refine Ops.gn rfl rfl rfl rfl rfl ?_
                  refine Ops.gn rfl rfl rfl rfl rfl ?_
                  refine Ops.gn rfl rfl rfl rfl rfl ?_
                  refine Ops.gn rfl rfl rfl rfl rfl ?_
                  refine Ops.gn rfl rfl rfl rfl rfl ?_
                  refine Ops.gn rfl rfl rfl rfl rfl ?_
                  refine Ops.gn rfl rfl rfl rfl rfl ?_
                  refine Ops.gn rfl rfl rfl rfl rfl ?_
                  refine Ops.gn rfl rfl rfl rfl rfl ?_
                  refine Ops.u (Dtu.pickT (lk rfl) (lk rfl)) rfl ?_
                  refine Ops.u (Dtu.asg (lk rfl)) rfl ?_
                  refine Ops.nil ?_
                  refine Then.next ?_
                  refine Body.condT (lk rfl) ?_
                  refine Body.seq ?_
                  refine Body.region ?_
                  refine Ops.u (Dtu.asg (lk rfl)) rfl ?_
                  refine Ops.nil ?_
                  refine Then.next ?_
                  refine Body.ret ?_
                  refine Blk.ret ?_
                  refine Then.ret ?_
                  (first | exact ⟨.inr rfl, _, pk [] rfl, by rw [View.ok_no (by rw [View.fits_w]; omega)]; rfl, rfl⟩ | exact ⟨.inr rfl, _, pk [] rfl, by rw [View.ok_yes (by rw [View.fits_w]; omega)]; rfl, rfl⟩)
                · refine Ops.gu rfl rfl rfl (Dtu.fld fa24_2 (lk rfl)) rfl ?_
                  refine Ops.gd rfl rfl rfl (Det.ld Try.isAgg22 (lk rfl) (Rd.ow 0 rfl rfl)) rfl ?_
                  refine Ops.gu rfl rfl rfl (Dtu.lenS Try.underlying22 (Sl.up h) (lk rfl)) rfl ?_
                  refine Ops.gu rfl rfl rfl (Dtu.fld fa24_0 (lk rfl)) rfl ?_
                  refine Ops.gd rfl rfl rfl (Det.ld Try.isAgg3 (lk rfl) (Rd.ow 0 rfl rfl)) rfl ?_
                  refine Ops.gu rfl rfl rfl (Dtu.fld fa24_1 (lk rfl)) rfl ?_
                  refine Ops.gd rfl rfl rfl (Det.ld Try.isAgg3 (lk rfl) (Rd.ow 0 rfl rfl)) rfl ?_
                  refine Ops.gu rfl rfl rfl (Dtu.mul (lk rfl) (lk rfl) rfl) rfl ?_
                  refine Ops.gu rfl rfl rfl (Dtu.neq (lk rfl) (lk rfl)) rfl ?_
                  refine Ops.u (Dtu.pickF (lk rfl) (lk rfl)) rfl ?_
                  refine Ops.u (Dtu.asg (lk rfl)) rfl ?_
                  refine Ops.nil ?_
                  refine Then.next ?_
                  refine Body.condP (lk rfl) (fun c22 => ?_) (fun c22 => ?_)
                  · refine Body.seq ?_
                    refine Body.region ?_
                    refine Ops.u (Dtu.asg (lk rfl)) rfl ?_
                    refine Ops.nil ?_
                    refine Then.next ?_
                    refine Body.ret ?_
                    refine Blk.ret ?_
                    refine Then.ret ?_
                    (first | exact ⟨.inr rfl, _, pk [] rfl, by rw [View.ok_no (by rw [View.fits_w]; omega)]; rfl, rfl⟩ | exact ⟨.inr rfl, _, pk [] rfl, by rw [View.ok_yes (by rw [View.fits_w]; omega)]; rfl, rfl⟩)
                  · refine Body.skip ?_
                    refine Blk.norm ?_
                    refine Then.next ?_
                    refine Body.seq ?_
                    refine Body.region ?_
                    refine Ops.u (Dtu.fld fa24_2 (lk rfl)) rfl ?_
                    refine Ops.d (Det.ld Try.isAgg22 (lk rfl) (Rd.ow 0 rfl rfl)) rfl ?_
                    refine Ops.s (Stp.call rfl Try.call68 (lks rfl) (fun E' le hat => containsC_ok E' _ _ (fun c => !c.ok) _ Try.call69 (fun E c => right1_ok E c) (Sl.mono (by assumption) le)) ?_) rfl
                    rintro _ _ ⟨rfl, rfl⟩
                    refine Ops.u (Dtu.not (lk rfl)) rfl ?_
                    refine Ops.u (Dtu.asg (lk rfl)) rfl ?_
                    refine Ops.nil ?_
                    refine Then.next ?_
                    refine Body.ret ?_
                    (first | exact ⟨.inr rfl, _, pk [] rfl, by rw [View.ok_no (by rw [View.fits_w]; omega)]; rfl, rfl⟩ | exact ⟨.inr rfl, _, pk [] rfl, by rw [View.ok_yes (by rw [View.fits_w]; omega)]; rfl, rfl⟩)
end Go.Proofs.Ytijjjdljdjnbaaa
end
section
/- A cell's and a style's bytes. -/
namespace Go.Proofs.Ytijjjdljdjnbaaa
set_option maxRecDepth 100000
set_option linter.unusedVariables false
set_option linter.unusedSimpArgs false
open Go.Sx

def Cell.styleB (c : Cell) : List Int := [c.fl] ++ (putL c.fg ++ putL c.bg)
def Cell.bytes (c : Cell) : List Int := c.styleB ++ putL c.pt
def Cell.styleN (c : Cell) : Nat := 1 + sizeS c.fg + sizeS c.bg
def Cell.size (c : Cell) : Nat := c.styleN + sizeS c.pt
def Cell.sn (c : Cell) : Nat → Nat
  | 0 => 1
  | 1 => 1 + sizeS c.fg
  | _ => 1 + sizeS c.fg + sizeS c.bg
def Cell.sb (c : Cell) : Nat → List Int
  | 0 => [c.fl]
  | 1 => [c.fl] ++ putL c.fg
  | _ => [c.fl] ++ putL c.fg ++ putL c.bg
end Go.Proofs.Ytijjjdljdjnbaaa
end
section
/- Views and cells: which are the same. -/
namespace Go.Proofs.Ytijjjdljdjnbaaa
set_option maxRecDepth 100000
set_option linter.unusedVariables false
set_option linter.unusedSimpArgs false
open Go.Sx

theorem eq55 (a b : Cell) : EqAgg Try.prog 55 a.enc b.enc (decide (a = b)) := by
  have h : EqAgg Try.prog 55 a.enc b.enc ((a.pt == b.pt) && (((a.fl == b.fl) && ((a.fg == b.fg) && ((a.bg == b.bg) && true))) && true)) :=
    EqAgg.mk fun k => EqD.struct Try.underlying55 (by kernel_rfl) (FE.cons rfl (part_v Try.isAgg21 rfl) (part_v Try.isAgg21 rfl) (EqD.int Try.underlying21)
      (FE.cons rfl (part_a Try.isAgg53 Try.sizeOf53 rfl) (part_a Try.isAgg53 Try.sizeOf53 rfl)
        (EqD.struct Try.underlying53 (by kernel_rfl) (FE.cons rfl (part_v Try.isAgg5 rfl) (part_v Try.isAgg5 rfl) (EqD.int Try.underlying5)
          (FE.cons rfl (part_v Try.isAgg51 rfl) (part_v Try.isAgg51 rfl) (EqD.int Try.underlying51) (FE.cons rfl (part_v Try.isAgg51 rfl) (part_v Try.isAgg51 rfl) (EqD.int Try.underlying51) FE.nil)))) FE.nil))
  have e : ((a.pt == b.pt) && (((a.fl == b.fl) && ((a.fg == b.fg) && ((a.bg == b.bg) && true))) && true)) = decide (a = b) := by
    cases a; cases b
    rw [Bool.eq_iff_iff]
    simp
  rwa [e] at h
theorem eqGuard55 : Try.prog.eqGuardType Try.prog.depth 55 = false := by kernel_rfl
theorem equalC_ok (E : Env) (s t : Value) (xs ys : List Cell) (hx : Sl E [] 4 s xs.length (xs.flatMap Cell.enc)) (hy : Sl E [] 4 t ys.length (ys.flatMap Cell.enc)) :
    Does Try.prog 71 #[s, t] E [] fun r H' => r = .bool (decide (xs = ys)) ∧ H' = [] := by
  refine Does.pure hx.len fun hlen => ?_
  refine Does.pure hy.len fun hlen2 => ?_
  refine Does.go (args := [s, t]) _ _ Try.func71 rfl Try.ntmps71 rfl rfl ?_
  refine Body.seq ?_
  refine Body.region ?_
  refine Ops.u (Dtu.asg (lk rfl)) rfl ?_
  refine Ops.nil ?_
  refine Then.next ?_
  refine Body.seq ?_
  refine Body.seq ?_
  refine Body.region ?_
  refine Ops.u (Dtu.mv (lk rfl)) rfl ?_
  refine Ops.u (Dtu.lenS Try.underlying22 (Sl.up hx) (lk rfl)) rfl ?_
  refine Ops.u (Dtu.mv (lk rfl)) rfl ?_
  refine Ops.u (Dtu.lenS Try.underlying22 (Sl.up hy) (lk rfl)) rfl ?_
  refine Ops.u (Dtu.neq (lk rfl) (lk rfl)) rfl ?_
  refine Ops.nil ?_
  refine Then.next ?_
  refine Body.condP (lk rfl) (fun c10 => ?_) (fun c10 => ?_)
  · refine Body.seq ?_
    refine Body.region ?_
    refine Ops.u (Dtu.asg (lk rfl)) rfl ?_
    refine Ops.nil ?_
    refine Then.next ?_
    refine Body.ret ?_
    refine Then.ret ?_
    refine ⟨.inr rfl, _, pk [] rfl, bool_eq ?_, rfl⟩
    have : xs ≠ ys := fun e => c10 (by rw [e])
    simp [this]
  · refine Body.skip ?_
    refine Then.next ?_
    refine Body.seq ?_
    refine Body.seq ?_
    refine Body.region ?_
    refine Ops.u (Dtu.mv (lk rfl)) rfl ?_
    refine Ops.u (Dtu.lenS Try.underlying22 (Sl.up hx) (lk rfl)) rfl ?_
    refine Ops.u (Dtu.mv (lk rfl)) rfl ?_
    refine Ops.nil ?_
    refine Then.next ?_
    refine Body.block ?_
    have hl : xs.length = ys.length := by omega
    refine Body.loopF (γ := Nat) rfl (fun k => [(13, .int .i64 k)]) (fun _ => []) (fun k => k ≤ xs.length ∧ ∀ j, j < k → xs[j]! = ys[j]!) (fun k => xs.length - k) 0 ⟨by omega, fun j hj => by omega⟩ ⟨rfl, trivial⟩ rfl ?_
    rintro k u ⟨hk, hb⟩
    refine Body.seq ?_
    refine Body.region ?_
    refine Ops.u (Dtu.lss (lk rfl) (lk rfl)) rfl ?_
    refine Ops.nil ?_
    refine Then.next ?_
    refine Body.seq ?_
    refine Body.condP (lk rfl) (fun c14 => ?_) (fun c14 => ?_)
    · refine Body.skip ?_
      refine Then.next ?_
      refine Body.seq ?_
      refine Body.block ?_
      refine Body.seq ?_
      refine Body.region ?_
      refine Ops.u (Dtu.mv (lk rfl)) rfl ?_
      refine Ops.u (Dtu.asg (lk rfl)) rfl ?_
      refine Ops.nil ?_
      refine Then.next ?_
      refine Body.seq ?_
      refine Body.draw mixed ?_
      refine AB.u 0 rfl (by decide +kernel) (Dtu.mv (lk rfl)) rfl ?_
      refine AB.u 1 rfl (by decide +kernel) (Dtu.mv (lk rfl)) rfl ?_
      refine AB.u 2 rfl (by decide +kernel) (Dtu.ix (i := (k)) Try.underlying22 Try.sizeOf55 (Sl.up hx) (lk rfl) (lk rfl) (by omega) (by omega)) rfl ?_
      refine AB.d 3 rfl (by decide +kernel) rfl (Det.lda Try.isAgg55 Try.sizeOf55 (lk rfl) (Rds.sl (Sl.up hx) (gf (sz := 4) (fun _ => rfl) (by omega))) rfl) rfl ?_
      refine AB.u 4 rfl (by decide +kernel) (Dtu.mv (lk rfl)) rfl ?_
      refine AB.u 5 rfl (by decide +kernel) (Dtu.mv (lk rfl)) rfl ?_
      refine AB.u 6 rfl (by decide +kernel) (Dtu.ix (i := (k)) Try.underlying22 Try.sizeOf55 (Sl.up hy) (lk rfl) (lk rfl) (by omega) (by omega)) rfl ?_
      refine AB.d 7 rfl (by decide +kernel) rfl (Det.lda Try.isAgg55 Try.sizeOf55 (lk rfl) (Rds.sl (Sl.up hy) (gf (sz := 4) (fun _ => rfl) (by omega))) rfl) rfl ?_
      refine AB.u 8 rfl (by decide +kernel) (Dtu.neS eqGuard55 (eq55 _ _) (lk rfl) (lk rfl)) rfl ?_
      refine AB.done (by decide +kernel) ?_
      refine Then.next ?_
      refine Body.cond (lk rfl) (fun c24 => ?_) (fun c24 => ?_)
      · refine Body.seq ?_
        refine Body.region ?_
        refine Ops.u (Dtu.asg (lk rfl)) rfl ?_
        refine Ops.nil ?_
        refine Then.next ?_
        refine Body.ret ?_
        refine Blk.ret ?_
        refine Then.ret ?_
        refine Round.ret ?_
        refine Blk.ret ?_
        refine Then.ret ?_
        refine ⟨.inr rfl, _, pk [] rfl, bool_eq ?_, rfl⟩
        have : xs ≠ ys := fun e => by simp [e] at c24
        simp [this]
      · refine Body.skip ?_
        refine Blk.norm ?_
        refine Then.next ?_
        refine Body.region ?_
        refine Ops.u (Dtu.add (lk rfl) (lk rfl) (w64 (by omega) (by omega))) rfl ?_
        refine Ops.u (Dtu.mv (lk rfl)) rfl ?_
        refine Ops.nil ?_
        refine Round.goF (k + 1) rfl rfl rfl ⟨int_eq (by omega), trivial⟩ rfl ⟨by omega, fun j hj => ?_⟩ (by omega)
        by_cases e : j = k
        · subst e; simpa using c24
        · exact hb j (by omega)
    · refine Body.exit ?_
      refine Then.exit ?_
      refine Round.exit ?_
      refine Blk.here ?_
      refine Then.next ?_
      refine Body.seq ?_
      refine Body.region ?_
      refine Ops.u (Dtu.asg (lk rfl)) rfl ?_
      refine Ops.nil ?_
      refine Then.next ?_
      refine Body.ret ?_
      refine ⟨.inr rfl, _, pk [] rfl, bool_eq ?_, rfl⟩
      have : xs = ys := List.ext_getElem hl fun j h1 h2 => by
        have := hb j (by omega)
        rwa [getElem!_pos xs j h1, getElem!_pos ys j h2] at this
      simp [this]
theorem same_ok (E : Env) (a b : View) (s t : Value) (ha : a.has E [] s) (hb : b.has E [] t) : Does Try.prog 26 #[a.val s, b.val t] E [] fun r H' => r = .bool (decide (a = b)) ∧ H' = [] := by
  unfold View.has at ha hb
  refine Does.pure ha.isSl fun hs => ?_
  refine Does.pure hb.isSl fun ht => ?_
  refine Does.go (args := [a.val s, b.val t]) _ _ Try.func26 rfl Try.ntmps26 rfl rfl ?_
  obtain ⟨r1, c1, l1, o1, q1, v1⟩ := a
  obtain ⟨r2, c2, l2, o2, q2, v2⟩ := b
  refine Body.seq ?_
  refine Body.region ?_
  refine Ops.s (Stp.box (lk rfl) rfl (fun b2 => ?_)) rfl
  refine Ops.s (Stp.box (lk rfl) rfl (fun b3 => ?_)) rfl
  refine Ops.u (Dtu.asg (lk rfl)) rfl ?_
  refine Ops.nil ?_
  refine Then.next ?_
  refine Body.seq ?_
  refine Body.region ?_
  refine Ops.u (Dtu.fld fa24_0 (lk rfl)) rfl ?_
  refine Ops.d (Det.ld Try.isAgg3 (lk rfl) (Rd.ow 1 rfl rfl)) rfl ?_
  refine Ops.u (Dtu.fld fa24_0 (lk rfl)) rfl ?_
  refine Ops.d (Det.ld Try.isAgg3 (lk rfl) (Rd.ow 0 rfl rfl)) rfl ?_
  refine Ops.u (Dtu.eql (lk rfl) (lk rfl)) rfl ?_
  refine Ops.u (Dtu.mv (lk rfl)) rfl ?_
  refine Ops.decP 10 rfl (fun c10 => ?_) (fun c10 => ?_)
  · refine Ops.gu rfl rfl rfl (Dtu.fld fa24_1 (lk rfl)) rfl ?_
    refine Ops.gd rfl rfl rfl (Det.ld Try.isAgg3 (lk rfl) (Rd.ow 1 rfl rfl)) rfl ?_
    refine Ops.gu rfl rfl rfl (Dtu.fld fa24_1 (lk rfl)) rfl ?_
    refine Ops.gd rfl rfl rfl (Det.ld Try.isAgg3 (lk rfl) (Rd.ow 0 rfl rfl)) rfl ?_
    refine Ops.gu rfl rfl rfl (Dtu.eql (lk rfl) (lk rfl)) rfl ?_
    refine Ops.u (Dtu.pickT (lk rfl) (lk rfl)) rfl ?_
    refine Ops.u (Dtu.mv (lk rfl)) rfl ?_
    refine Ops.decP 17 rfl (fun c17 => ?_) (fun c17 => ?_)
    · refine Ops.gu rfl rfl rfl (Dtu.fld fa24_3 (lk rfl)) rfl ?_
      refine Ops.gd rfl rfl rfl (Det.ld Try.isAgg3 (lk rfl) (Rd.ow 1 rfl rfl)) rfl ?_
      refine Ops.gu rfl rfl rfl (Dtu.fld fa24_3 (lk rfl)) rfl ?_
      refine Ops.gd rfl rfl rfl (Det.ld Try.isAgg3 (lk rfl) (Rd.ow 0 rfl rfl)) rfl ?_
      refine Ops.gu rfl rfl rfl (Dtu.eql (lk rfl) (lk rfl)) rfl ?_
      refine Ops.u (Dtu.pickT (lk rfl) (lk rfl)) rfl ?_
      refine Ops.u (Dtu.mv (lk rfl)) rfl ?_
      refine Ops.decP 24 rfl (fun c24 => ?_) (fun c24 => ?_)
      · refine Ops.gu rfl rfl rfl (Dtu.fld fa24_4 (lk rfl)) rfl ?_
        refine Ops.gd rfl rfl rfl (Det.ld Try.isAgg3 (lk rfl) (Rd.ow 1 rfl rfl)) rfl ?_
        refine Ops.gu rfl rfl rfl (Dtu.fld fa24_4 (lk rfl)) rfl ?_
        refine Ops.gd rfl rfl rfl (Det.ld Try.isAgg3 (lk rfl) (Rd.ow 0 rfl rfl)) rfl ?_
        refine Ops.gu rfl rfl rfl (Dtu.eql (lk rfl) (lk rfl)) rfl ?_
        refine Ops.u (Dtu.pickT (lk rfl) (lk rfl)) rfl ?_
        refine Ops.u (Dtu.mv (lk rfl)) rfl ?_
        refine Ops.decP 31 rfl (fun c31 => ?_) (fun c31 => ?_)
        · refine Ops.gu rfl rfl rfl (Dtu.fld fa24_5 (lk rfl)) rfl ?_
          refine Ops.gd rfl rfl rfl (Det.ld Try.isAgg4 (lk rfl) (Rd.ow 1 rfl rfl)) rfl ?_
          refine Ops.gu rfl rfl rfl (Dtu.fld fa24_5 (lk rfl)) rfl ?_
          refine Ops.gd rfl rfl rfl (Det.ld Try.isAgg4 (lk rfl) (Rd.ow 0 rfl rfl)) rfl ?_
          refine Ops.gu rfl rfl rfl (Dtu.eqB Try.underlying4 (lk rfl) (lk rfl)) rfl ?_
          refine Ops.u (Dtu.pickT (lk rfl) (lk rfl)) rfl ?_
          refine Ops.u (Dtu.mv (lk rfl)) rfl ?_
          refine Ops.decP 38 rfl (fun c38 => ?_) (fun c38 => ?_)
          · refine Ops.gu rfl rfl rfl (Dtu.fld fa24_2 (lk rfl)) rfl ?_
            refine Ops.gd rfl rfl rfl (Det.ld Try.isAgg22 (lk rfl) (Rd.ow 1 rfl rfl)) rfl ?_
            refine Ops.gu rfl rfl rfl (Dtu.fld fa24_2 (lk rfl)) rfl ?_
            refine Ops.gd rfl rfl rfl (Det.ld Try.isAgg22 (lk rfl) (Rd.ow 0 rfl rfl)) rfl ?_
            refine Ops.gs rfl rfl rfl (Stp.call rfl Try.call71 (lks rfl) (fun E' le hat => equalC_ok E' _ _ _ _ (Sl.mono (by assumption) le) (Sl.mono (by assumption) le)) ?_) rfl
            rintro _ _ ⟨rfl, rfl⟩
            refine Ops.u (Dtu.pickT (lk rfl) (lk rfl)) rfl ?_
            refine Ops.u (Dtu.asg (lk rfl)) rfl ?_
            refine Ops.nil ?_
            refine Then.next ?_
            refine Body.ret ?_
            (refine ⟨.inr rfl, _, pk [] rfl, bool_eq ?_, rfl⟩; simp_all)
          · refine Ops.gn rfl rfl rfl rfl rfl ?_
            refine Ops.gn rfl rfl rfl rfl rfl ?_
            refine Ops.gn rfl rfl rfl rfl rfl ?_
            refine Ops.gn rfl rfl rfl rfl rfl ?_
            refine Ops.gn rfl rfl rfl rfl rfl ?_
            refine Ops.u (Dtu.pickF (lk rfl) (lk rfl)) rfl ?_
            refine Ops.u (Dtu.asg (lk rfl)) rfl ?_
            refine Ops.nil ?_
            refine Then.next ?_
            refine Body.ret ?_
            (refine ⟨.inr rfl, _, pk [] rfl, bool_eq ?_, rfl⟩; simp_all)
        · refine Ops.gn rfl rfl rfl rfl rfl ?_
          refine Ops.gn rfl rfl rfl rfl rfl ?_
          refine Ops.gn rfl rfl rfl rfl rfl ?_
          refine Ops.gn rfl rfl rfl rfl rfl ?_
          refine Ops.gn rfl rfl rfl rfl rfl ?_
          refine Ops.u (Dtu.pickF (lk rfl) (lk rfl)) rfl ?_
          refine Ops.u (Dtu.mv (lk rfl)) rfl ?_
          refine Ops.gn rfl rfl rfl rfl rfl ?_
          refine Ops.gn rfl rfl rfl rfl rfl ?_
          refine Ops.gn rfl rfl rfl rfl rfl ?_
          refine Ops.gn rfl rfl rfl rfl rfl ?_
          refine Ops.gn rfl rfl rfl rfl rfl ?_
          refine Ops.u (Dtu.pickF (lk rfl) (lk rfl)) rfl ?_
          refine Ops.u (Dtu.asg (lk rfl)) rfl ?_
          refine Ops.nil ?_
          refine Then.next ?_
          refine Body.ret ?_
          (refine ⟨.inr rfl, _, pk [] rfl, bool_eq ?_, rfl⟩; simp_all)
      · refine Ops.gn rfl rfl rfl rfl rfl ?_
        refine Ops.gn rfl rfl rfl rfl rfl ?_
        refine Ops.gn rfl rfl rfl rfl rfl ?_
        refine Ops.gn rfl rfl rfl rfl rfl ?_
        refine Ops.gn rfl rfl rfl rfl rfl ?_
        refine Ops.u (Dtu.pickF (lk rfl) (lk rfl)) rfl ?_
        refine Ops.u (Dtu.mv (lk rfl)) rfl ?_
        refine Ops.gn rfl rfl rfl rfl rfl ?_
        refine Ops.gn rfl rfl rfl rfl rfl ?_
        refine Ops.gn rfl rfl rfl rfl rfl ?_
        refine Ops.gn rfl rfl rfl rfl rfl ?_
        refine Ops.gn rfl rfl rfl rfl rfl ?_
        refine Ops.u (Dtu.pickF (lk rfl) (lk rfl)) rfl ?_
        refine Ops.u (Dtu.mv (lk rfl)) rfl ?_
        refine Ops.gn rfl rfl rfl rfl rfl ?_
        refine Ops.gn rfl rfl rfl rfl rfl ?_
        refine Ops.gn rfl rfl rfl rfl rfl ?_
        refine Ops.gn rfl rfl rfl rfl rfl ?_
        refine Ops.gn rfl rfl rfl rfl rfl ?_
        refine Ops.u (Dtu.pickF (lk rfl) (lk rfl)) rfl ?_
        refine Ops.u (Dtu.asg (lk rfl)) rfl ?_
        refine Ops.nil ?_
        refine Then.next ?_
        refine Body.ret ?_
        (refine ⟨.inr rfl, _, pk [] rfl, bool_eq ?_, rfl⟩; simp_all)
    · refine Ops.gn rfl rfl rfl rfl rfl ?_
      refine Ops.gn rfl rfl rfl rfl rfl ?_
      refine Ops.gn rfl rfl rfl rfl rfl ?_
      refine Ops.gn rfl rfl rfl rfl rfl ?_
      refine Ops.gn rfl rfl rfl rfl rfl ?_
      refine Ops.u (Dtu.pickF (lk rfl) (lk rfl)) rfl ?_
      refine Ops.u (Dtu.mv (lk rfl)) rfl ?_
      refine Ops.gn rfl rfl rfl rfl rfl ?_
      refine Ops.gn rfl rfl rfl rfl rfl ?_
      refine Ops.gn rfl rfl rfl rfl rfl ?_
      refine Ops.gn rfl rfl rfl rfl rfl ?_
      refine Ops.gn rfl rfl rfl rfl rfl ?_
      refine Ops.u (Dtu.pickF (lk rfl) (lk rfl)) rfl ?_
      refine Ops.u (Dtu.mv (lk rfl)) rfl ?_
      refine Ops.gn rfl rfl rfl rfl rfl ?_
      refine Ops.gn rfl rfl rfl rfl rfl ?_
      refine Ops.gn rfl rfl rfl rfl rfl ?_
      refine Ops.gn rfl rfl rfl rfl rfl ?_
      refine Ops.gn rfl rfl rfl rfl rfl ?_
      refine Ops.u (Dtu.pickF (lk rfl) (lk rfl)) rfl ?_
      refine Ops.u (Dtu.mv (lk rfl)) rfl ?_
      refine Ops.gn rfl rfl rfl rfl rfl ?_
      refine Ops.gn rfl rfl rfl rfl rfl ?_
      refine Ops.gn rfl rfl rfl rfl rfl ?_
      refine Ops.gn rfl rfl rfl rfl rfl ?_
      refine Ops.gn rfl rfl rfl rfl rfl ?_
      refine Ops.u (Dtu.pickF (lk rfl) (lk rfl)) rfl ?_
      refine Ops.u (Dtu.asg (lk rfl)) rfl ?_
      refine Ops.nil ?_
      refine Then.next ?_
      refine Body.ret ?_
      (refine ⟨.inr rfl, _, pk [] rfl, bool_eq ?_, rfl⟩; simp_all)
  · refine Ops.gn rfl rfl rfl rfl rfl ?_
    refine Ops.gn rfl rfl rfl rfl rfl ?_
    refine Ops.gn rfl rfl rfl rfl rfl ?_
    refine Ops.gn rfl rfl rfl rfl rfl ?_
    refine Ops.gn rfl rfl rfl rfl rfl ?_
    refine Ops.u (Dtu.pickF (lk rfl) (lk rfl)) rfl ?_
    refine Ops.u (Dtu.mv (lk rfl)) rfl ?_
    refine Ops.gn rfl rfl rfl rfl rfl ?_
    refine Ops.gn rfl rfl rfl rfl rfl ?_
    refine Ops.gn rfl rfl rfl rfl rfl ?_
    refine Ops.gn rfl rfl rfl rfl rfl ?_
    refine Ops.gn rfl rfl rfl rfl rfl ?_
    refine Ops.u (Dtu.pickF (lk rfl) (lk rfl)) rfl ?_
    refine Ops.u (Dtu.mv (lk rfl)) rfl ?_
    refine Ops.gn rfl rfl rfl rfl rfl ?_
    refine Ops.gn rfl rfl rfl rfl rfl ?_
    refine Ops.gn rfl rfl rfl rfl rfl ?_
    refine Ops.gn rfl rfl rfl rfl rfl ?_
    refine Ops.gn rfl rfl rfl rfl rfl ?_
    refine Ops.u (Dtu.pickF (lk rfl) (lk rfl)) rfl ?_
    refine Ops.u (Dtu.mv (lk rfl)) rfl ?_
    refine Ops.gn rfl rfl rfl rfl rfl ?_
    refine Ops.gn rfl rfl rfl rfl rfl ?_
    refine Ops.gn rfl rfl rfl rfl rfl ?_
    refine Ops.gn rfl rfl rfl rfl rfl ?_
    refine Ops.gn rfl rfl rfl rfl rfl ?_
    refine Ops.u (Dtu.pickF (lk rfl) (lk rfl)) rfl ?_
    refine Ops.u (Dtu.mv (lk rfl)) rfl ?_
    refine Ops.gn rfl rfl rfl rfl rfl ?_
    refine Ops.gn rfl rfl rfl rfl rfl ?_
    refine Ops.gn rfl rfl rfl rfl rfl ?_
    refine Ops.gn rfl rfl rfl rfl rfl ?_
    refine Ops.gn rfl rfl rfl rfl rfl ?_
    refine Ops.u (Dtu.pickF (lk rfl) (lk rfl)) rfl ?_
    refine Ops.u (Dtu.asg (lk rfl)) rfl ?_
    refine Ops.nil ?_
    refine Then.next ?_
    refine Body.ret ?_
    (refine ⟨.inr rfl, _, pk [] rfl, bool_eq ?_, rfl⟩; simp_all)
theorem blank_ok (E : Env) : Does Try.prog 103 #[] E [] fun r H' => r = .agg (Cell.enc ⟨32, 0, 0, 0⟩).toArray ∧ H' = [] := by
  refine Does.go (args := []) _ _ Try.func103 rfl Try.ntmps103 rfl rfl ?_
  refine Body.seq ?_
  refine Body.region ?_
  refine Ops.s (Stp.alloc ty55 (fun b0 => ?_)) rfl
  refine Ops.nil ?_
  refine Then.next ?_
  refine Body.seq ?_
  refine Body.region ?_
  refine Ops.u (Dtu.build ty55 pl55 (lkp rfl) rfl rfl) rfl ?_
  refine Ops.e (Stp.store 0 Try.sizeOf55 (lk rfl) (lk rfl) rfl rfl rfl rfl rfl rfl rfl ?_)
  refine Ops.nil ?_
  refine Then.next ?_
  refine Body.ret ?_
  exact ⟨.inr rfl, _, Loads.agg Try.isAgg55 Try.sizeOf55 (Rds.ow (m := 4) 0 rfl rfl) rfl, _, pk [] rfl, rfl, rfl⟩
def View.first : View := ⟨1, 1, [⟨32, 0, 0, 0⟩], 0, 0, true⟩
theorem first_ok (E : Env) : Does Try.prog 57 #[] E [] fun r H' => ∃ s, r = View.first.val s ∧ H' = [osl 55 4 s 1 (View.first.cells.flatMap Cell.enc)] := by
  refine Does.go (args := []) _ _ Try.func57 rfl Try.ntmps57 rfl rfl ?_
  refine Body.seq ?_
  refine Body.region ?_
  refine Ops.s (Stp.alloc ty24 (fun b0 => ?_)) rfl
  refine Ops.nil ?_
  refine Then.next ?_
  refine Body.seq ?_
  refine Body.region ?_
  refine Ops.s (Stp.call rfl Try.call103 (lks rfl) (fun E' le hat => blank_ok E') ?_) rfl
  rintro _ _ ⟨rfl, rfl⟩
  refine Ops.s (Stp.buildSliceO Try.underlying22 ty55 (by decide) (by decide) (lkp rfl) rfl rfl rfl (by decide) (fun v2 => ?_)) rfl
  refine Ops.pure (Sl.isSl (Sl.osl 0 rfl)) fun h2 => ?_
  obtain ⟨a2, m2, c2, rfl⟩ := h2
  refine Ops.u (Dtu.build ty24 pl24 (lkp rfl) rfl rfl) rfl ?_
  refine Ops.e (Stp.store 1 Try.sizeOf24 (lk rfl) (lk rfl) rfl rfl rfl rfl rfl rfl rfl ?_)
  refine Ops.nil ?_
  refine Then.next ?_
  refine Body.ret ?_
  exact ⟨.inr rfl, _, Loads.agg Try.isAgg24 Try.sizeOf24 (Rds.ow (m := 6) 1 rfl rfl) rfl, _, pk [0] rfl, _, rfl, rfl⟩
def View.none : View := ⟨0, 0, [], 0, 0, false⟩
end Go.Proofs.Ytijjjdljdjnbaaa
end
section
/- A view's bytes. -/
namespace Go.Proofs.Ytijjjdljdjnbaaa
set_option maxRecDepth 100000
set_option linter.unusedVariables false
set_option linter.unusedSimpArgs false
open Go.Sx

/-- the bytes of n cells c and of what comes behind them -/
def runsFrom (c : Cell) (n : Nat) : List Cell → List Int
  | [] => putL n ++ c.bytes
  | d :: t => if d = c then runsFrom c (n + 1) t else putL n ++ c.bytes ++ runsFrom d 1 t
def runsB : List Cell → List Int
  | [] => []
  | c :: t => runsFrom c 1 t
def View.head (v : View) : List Int := [v.rows, v.cols, v.row, v.col, if v.vis then 1 else 0]
def View.bytes (v : View) : List Int := v.head ++ runsB v.cells
end Go.Proofs.Ytijjjdljdjnbaaa
end
section
/- What bytes are read as: styles and cells. -/
namespace Go.Proofs.Ytijjjdljdjnbaaa
set_option maxRecDepth 100000
set_option linter.unusedVariables false
set_option linter.unusedSimpArgs false
open Go.Sx

end Go.Proofs.Ytijjjdljdjnbaaa
end
section
/- What is written are bytes. -/
namespace Go.Proofs.Ytijjjdljdjnbaaa
set_option maxRecDepth 100000
set_option linter.unusedVariables false
set_option linter.unusedSimpArgs false
open Go.Sx

def BytM (l : List Int) : Prop := ∀ x ∈ l, 0 ≤ x ∧ x < 256
theorem BytM.byt {l : List Int} (h : BytM l) : Byt l := fun i hi => by
  rw [getElem!_pos l i hi]; exact h _ (List.getElem_mem hi)
theorem BytM.append {l k : List Int} (h : BytM l) (h2 : BytM k) : BytM (l ++ k) := fun x hx => by
  rcases List.mem_append.1 hx with h1 | h1
  · exact h x h1
  · exact h2 x h1
theorem BytM.cons {x : Int} {k : List Int} (h : 0 ≤ x ∧ x < 256) (h2 : BytM k) : BytM (x :: k) := fun y hy => by
  rcases List.mem_cons.1 hy with rfl | h1
  · exact h
  · exact h2 y h1
theorem BytM.nil : BytM [] := fun x hx => by simp at hx
def Cell.Fl (c : Cell) : Prop := 0 ≤ c.fl ∧ c.fl < 256
theorem View.ok_fits {v : View} (h : v.ok = true) : v.fits ∧ ∀ c ∈ v.cells, c.ok = true := by
  simp only [View.ok, Bool.and_eq_true, decide_eq_true_eq, List.all_eq_true] at h
  exact h
end Go.Proofs.Ytijjjdljdjnbaaa
end
section
/- What bytes are read as: a view. -/
namespace Go.Proofs.Ytijjjdljdjnbaaa
set_option maxRecDepth 100000
set_option linter.unusedVariables false
set_option linter.unusedSimpArgs false
open Go.Sx

end Go.Proofs.Ytijjjdljdjnbaaa
end
section
/- What comes of the fixed calls of longlinelaw20. -/
namespace Go.Proofs.Ytijjjdljdjnbaaa
set_option maxRecDepth 100000
set_option linter.unusedVariables false
set_option linter.unusedSimpArgs false
open Go.Sx

theorem slNone (E : Env) (sz : Nat) : Sl E [] sz (.slice none 0 0) 0 [] := fun w s => ⟨by simp, by decide, .inl ⟨rfl, none, 0, rfl, by decide⟩⟩
end Go.Proofs.Ytijjjdljdjnbaaa
end
