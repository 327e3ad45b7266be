/- The document's cells: which are equal. -/
import Derived.Test.YtijjjdljdjnbaaaRefF
import Derived.ChangeKeysEq
namespace Go.Proofs.Ytijjjdljdjnbaaa
set_option maxRecDepth 100000
set_option linter.unusedVariables false
set_option linter.unusedSimpArgs false
open Go.Sx

/-- an array's items, each equal -/
def IE (P : Program) (d e c : Nat) (xs ys : List Value) (is : List Nat) (b : Bool) : Prop := ∀ w, (Op.eqItems d e c xs.toArray ys.toArray is).run P w = .ok b w
theorem IE.nil {P : Program} {d e c : Nat} {xs ys : List Value} : IE P d e c xs ys [] true := fun w => by simp [Op.eqItems]
theorem IE.cons {P : Program} {d e c i : Nat} {xs ys : List Value} {is : List Nat} {a b : Value} {r q : Bool} (ha : ∀ w, (part e xs.toArray (i * c)).run P w = .ok a w) (hb : ∀ w, (part e ys.toArray (i * c)).run P w = .ok b w) (he : EqD P d e a b r) (hr : IE P d e c xs ys is q) : IE P d e c xs ys (i :: is) (r && q) := fun w => by
  simp only [Op.eqItems, Sem.run_bind, ha, hb, he w, Result.andThen_ok]
  cases r
  · simp
  · simpa using hr w
theorem EqD.array {P : Program} {d : Nat} {T e : TypeId} {n c : Nat} {i : TypeInfo} {xs ys : List Value} {b : Bool} (hu : P.underlying T = some (.array n e)) (hi : P.info? e = some i) (hc : P.cellsOf e = c) (h : IE P d e c xs ys (List.range n) b) : EqD P (d + 1) T (.agg xs.toArray) (.agg ys.toArray) b := fun w => by
  rw [run_equalIn_array w d _ _ hu hi, hc]
  exact h w
abbrev bits (fl : Int) : List Value := [.bool (bit8 fl 0), .bool (bit8 fl 1), .bool (bit8 fl 2), .bool (bit8 fl 3), .bool (bit8 fl 4), .bool (bit8 fl 5), .bool (bit8 fl 6), .bool (bit8 fl 7)]
def bitsEq (x y : Int) : Bool := (bit8 x 0 == bit8 y 0) && ((bit8 x 1 == bit8 y 1) && ((bit8 x 2 == bit8 y 2) && ((bit8 x 3 == bit8 y 3) && ((bit8 x 4 == bit8 y 4) && ((bit8 x 5 == bit8 y 5) && ((bit8 x 6 == bit8 y 6) && ((bit8 x 7 == bit8 y 7) && true)))))))
theorem eqBits (d : Nat) (x y : Int) : EqD Try.prog (d + 2) 61 (.agg (bits x).toArray) (.agg (bits y).toArray) (bitsEq x y) :=
  EqD.array Try.underlying61 (by kernel_rfl : Try.prog.info? 4 = some Try.t4) (by kernel_rfl : Try.prog.cellsOf 4 = 1)
    (.cons (part_v Try.isAgg4 rfl) (part_v Try.isAgg4 rfl) (EqD.bool Try.underlying4) (.cons (part_v Try.isAgg4 rfl) (part_v Try.isAgg4 rfl) (EqD.bool Try.underlying4)
      (.cons (part_v Try.isAgg4 rfl) (part_v Try.isAgg4 rfl) (EqD.bool Try.underlying4) (.cons (part_v Try.isAgg4 rfl) (part_v Try.isAgg4 rfl) (EqD.bool Try.underlying4)
        (.cons (part_v Try.isAgg4 rfl) (part_v Try.isAgg4 rfl) (EqD.bool Try.underlying4) (.cons (part_v Try.isAgg4 rfl) (part_v Try.isAgg4 rfl) (EqD.bool Try.underlying4)
          (.cons (part_v Try.isAgg4 rfl) (part_v Try.isAgg4 rfl) (EqD.bool Try.underlying4) (.cons (part_v Try.isAgg4 rfl) (part_v Try.isAgg4 rfl) (EqD.bool Try.underlying4) .nil))))))))
def byB (b : Nat → Bool) : Int := (if b 0 then 1 else 0) + (if b 1 then 2 else 0) + (if b 2 then 4 else 0) + (if b 3 then 8 else 0) + (if b 4 then 16 else 0) + (if b 5 then 32 else 0) + (if b 6 then 64 else 0) + (if b 7 then 128 else 0)
theorem byB_bit8 : ∀ c : Fin 256, byB (bit8 (c.val : Int)) = (c.val : Int) := by decide +kernel
theorem bitsEq_iff {x y : Int} (hx : 0 ≤ x ∧ x < 256) (hy : 0 ≤ y ∧ y < 256) : bitsEq x y = true ↔ x = y := by
  constructor
  · intro h
    simp only [bitsEq, Bool.and_true, Bool.and_eq_true, beq_iff_eq] at h
    obtain ⟨h0, h1, h2, h3, h4, h5, h6, h7⟩ := h
    obtain ⟨m, rfl⟩ := Int.eq_ofNat_of_zero_le hx.1
    obtain ⟨n, rfl⟩ := Int.eq_ofNat_of_zero_le hy.1
    have e1 : byB (bit8 (m : Int)) = (m : Int) := byB_bit8 ⟨m, by omega⟩
    have e2 : byB (bit8 (n : Int)) = (n : Int) := byB_bit8 ⟨n, by omega⟩
    rw [← e1, ← e2]
    unfold byB
    rw [h0, h1, h2, h3, h4, h5, h6, h7]
  · rintro rfl
    simp [bitsEq]
def reqB (a b : Cell) : Bool := (a.pt == b.pt) && ((bitsEq a.fl b.fl && ((a.fg == b.fg) && ((a.bg == b.bg) && true))) && true)
theorem eq65 (a b : Cell) : EqAgg Try.prog 65 a.renc b.renc (reqB a b) :=
  EqAgg.mk fun k => EqD.struct Try.underlying65 (by kernel_rfl) (FE.cons rfl (part_v Try.isAgg21 rfl) (part_v Try.isAgg21 rfl) (EqD.int Try.underlying21)
      (FE.cons rfl (part_a Try.isAgg63 Try.sizeOf63 rfl) (part_a Try.isAgg63 Try.sizeOf63 rfl)
        (EqD.struct Try.underlying63 (by kernel_rfl) (FE.cons rfl (part_a Try.isAgg61 Try.sizeOf61 rfl) (part_a Try.isAgg61 Try.sizeOf61 rfl) (eqBits _ _ _)
          (FE.cons rfl (part_v Try.isAgg51 rfl) (part_v Try.isAgg51 rfl) (EqD.int Try.underlying51) (FE.cons rfl (part_v Try.isAgg51 rfl) (part_v Try.isAgg51 rfl) (EqD.int Try.underlying51) FE.nil)))) FE.nil))
theorem eqGuard65 : Try.prog.eqGuardType Try.prog.depth 65 = false := by kernel_rfl
theorem reqB_iff {a b : Cell} (ha : a.Fl) (hb : b.Fl) : reqB a b = true ↔ a = b := by
  cases a; cases b
  simp only [reqB, Bool.and_true, Bool.and_eq_true, beq_iff_eq, bitsEq_iff ha hb, Cell.mk.injEq]
theorem reqB_self (a : Cell) : reqB a a = true := by simp [reqB, bitsEq]
end Go.Proofs.Ytijjjdljdjnbaaa
