/- copy; structs that are compared; strings and bytes. -/
import Derived.Test.YtijjjdljdjnbaaaSx6
import Derived.Laws.StructEq
namespace Go.Sx
open Go

/-- d's dl elements lie where v's elements from lo on lie -/
def LiesIn (E : Env) (H : List HProp) (v : Value) (sz : Nat) (d : Value) (lo dl : Nat) : Prop :=
  ∀ w, St E H w → (dl = 0 ∧ ∃ a c, d = .slice a 0 c) ∨ ∃ c, d = .slice (some ⟨blkOf v, offOf v + lo * sz, none⟩) dl c
theorem LiesIn.whole {E : Env} {H : List HProp} {v : Value} {sz m : Nat} {vs : List Value} (h : Sl E H sz v m vs) : LiesIn E H v sz v 0 m := fun w s => by
  rcases (h w s).val with ⟨hm, a, c, hv, _⟩ | ⟨cap, hv, _⟩
  · exact .inl ⟨hm, a, c, hv⟩
  · exact .inr ⟨cap, by rw [Nat.zero_mul, Nat.add_zero]; exact hv⟩
theorem LiesIn.sub {E : Env} {H : List HProp} {v : Value} {sz m : Nat} {vs : List Value} (h : Sl E H sz v m vs) {lo hi mx : Nat} (h1 : lo ≤ hi) (h2 : hi ≤ m) (h3 : hi ≤ mx) : LiesIn E H v sz (subSl v sz lo hi mx) lo (hi - lo) := fun w s => by
  by_cases hz : hi - lo = 0
  · obtain ⟨_, _, a, hv⟩ := (h w s).cap
    refine .inl ⟨hz, (if mx = lo then a else a.map (·.add (lo * sz))), mx - lo, ?_⟩
    rw [hv]; simp only [subSl, hz]
  · rcases (h w s).val with ⟨hm, _⟩ | ⟨cap, hv, _⟩
    · omega
    · have hne : ¬ mx = lo := by omega
      refine .inr ⟨mx - lo, ?_⟩
      rw [hv]
      simp only [subSl, hne, if_false, Option.map_some, addr_add, blkOf, offOf]

theorem LiesIn.sub' {E : Env} {H : List HProp} {v : Value} {sz m : Nat} {vs : List Value} (h : Sl E H sz v m vs) {lo hi : Nat} (h1 : lo ≤ hi) (h2 : hi ≤ m) : LiesIn E H v sz (subSl v sz lo hi (capOf v)) lo (hi - lo) := fun w s =>
  LiesIn.sub h h1 h2 (Nat.le_trans h2 (h w s).cap.1) w s
theorem run_first {P : Program} {sz : Nat} {u : Value} {k m : Nat} {ys : List Value} {w : World} (h : SlW w sz u k ys) (hm : m ≤ k) : (Builtin.firstCells sz m u).run P w = .ok (ys.take (m * sz)).toArray w := by
  rcases h.val with ⟨rfl, a, c, rfl, _⟩ | ⟨cap, hu, _, _, hc⟩
  · obtain rfl : m = 0 := by omega
    cases a <;> simp [Builtin.firstCells, loadCells, loadCellsFrom]
  · rw [hu]
    refine run_firstCells_some (P := P) w sz m _ k cap (ys.take (m * sz)) ?_ ?_
    · have := h.len
      have hle : m * sz ≤ k * sz := Nat.mul_le_mul_right _ hm
      simp; omega
    · intro j q hj
      rw [addr_add]
      rw [List.getElem?_take] at hj
      split at hj
      · exact hc j q hj
      · cases hj

section
variable {P : Program} {n : Nat} {f : Fr} {E : Env} {H : List HProp} {d : Option Nat} {ty : TypeId} {pos : String} {aft : Array Edge} {g : Option (Nat × Bool)} {x y z : Operand} {K : Value → List HProp → Prop}
theorem run_copy_op {t t' : TypeId} {a : Act} (r : Rel n f a.tmps) {u v : Value} (hx : ev f x = u) (hy : ev f y = v) (w : World) :
    (execOp a.eval ⟨d, .call { callee := .builtin .copy, args := #[x, y], argTypes := #[t, t'] }, ty, pos, aft, g⟩).run P w = ((Builtin.copy_ #[t, t'] ty #[u, v]).run P w).andThen fun v w' => .ok (.value v) w' := by
  simp [execOp, r.eval, hx, hy, resolve, invoke, builtin]
/-- copy into an owned slice, or a part of it -/
theorem Stp.copy (i : Nat) {t t' e : TypeId} {sz m lo dl k : Nat} {v dv u : Value} {vs ys : List Value} (ht : P.underlying t = some (.slice e)) (hz : ∀ w, (sizeOf e).run P w = .ok sz w) (hi : H[i]? = some (osl e sz v m vs)) (hx : ev f x = dv) (hd : LiesIn E H v sz dv lo dl) (hle : lo + dl ≤ m)
    (hy : ev f y = u) (hs : Sl E H sz u k ys) (h1 : ys.all (·.oneCell') = true)
    (k' : K (.int .i64 (Nat.min k dl : Nat)) (H.set i (osl e sz v m (vs.take (lo * sz) ++ ys.take (Nat.min k dl * sz) ++ vs.drop ((lo + Nat.min k dl) * sz))))) :
    Stp false P n f E H ⟨d, .call { callee := .builtin .copy, args := #[x, y], argTypes := #[t, t'] }, ty, pos, aft, g⟩ K := fun w a r s => by
  have hsrc := hs w s
  have hlen : (Builtin.lenOf u).run P w = .ok k w := by
    rcases hsrc.val with ⟨rfl, a, c, rfl, _⟩ | ⟨cap, hu, _⟩
    · simp [Builtin.lenOf]
    · rw [hu]; simp [Builtin.lenOf]
  have hq : Nat.min k dl ≤ k := Nat.min_le_left _ _
  have hq2 : Nat.min k dl ≤ dl := Nat.min_le_right _ _
  generalize hN : Nat.min k dl = N at *
  have hf := run_first (P := P) hsrc hq
  have h1' : ∀ q ∈ ys.take (N * sz), q.oneCell' = true := fun q hq => one_all h1 q (List.mem_of_mem_take hq)
  have hytl : (ys.take (N * sz)).length = N * sz := by
    have := hsrc.len
    have hle : N * sz ≤ k * sz := Nat.mul_le_mul_right _ hq
    simp; omega
  unfold OpR
  rw [run_copy_op r hx hy w]
  rcases hd w s with ⟨hdl, a, c, rfl⟩ | ⟨c, rfl⟩
  · obtain rfl : N = 0 := by omega
    have hrun : (Builtin.copy_ #[t, t'] ty #[.slice a dl c, u]).run P w = .ok (.int .i64 (0 : Nat)) w := by
      subst hdl
      cases a <;> simp [Builtin.copy_, run_underlying ht, hlen, hz, hf, storeCells, goInt]
    rw [show (Value.slice a 0 c) = Value.slice a dl c by rw [hdl], hrun]
    refine ⟨fun e => (by cases e), H, ?_, s⟩
    simp only [Nat.zero_mul, List.take_zero, List.append_nil, Nat.add_zero, List.take_append_drop] at k'
    have : H.set i (osl e sz v m vs) = H := by
      obtain ⟨hlt, he⟩ := List.getElem?_eq_some_iff.1 hi
      rw [← he]; exact List.set_getElem_self hlt
    rw [this] at k'
    exact k'
  · rcases osl_cases (s.get hi) with ⟨a, rfl, rfl, rfl, _⟩ | ⟨b, cap, rest, rfl, g1, g2, g3, g4, s2⟩
    · obtain rfl : dl = 0 := by omega
      obtain rfl : N = 0 := by omega
      obtain rfl : lo = 0 := by omega
      have hrun : (Builtin.copy_ #[t, t'] ty #[.slice (some ⟨blkOf (.slice a 0 0), offOf (.slice a 0 0) + 0 * sz, none⟩) 0 c, u]).run P w = .ok (.int .i64 (0 : Nat)) w := by
        simp [Builtin.copy_, run_underlying ht, hlen, hz, hf, storeCells, goInt]
      rw [hrun]
      refine ⟨fun e => (by cases e), H, ?_, s⟩
      simp only [Nat.zero_mul, List.take_zero, List.append_nil, Nat.add_zero, List.drop_zero] at k'
      have : H.set i (osl e sz (.slice a 0 0) 0 []) = H := by
        obtain ⟨hlt, he⟩ := List.getElem?_eq_some_iff.1 hi
        rw [← he]; exact List.set_getElem_self hlt
      rw [this] at k'
      exact k'
    · have hfit : lo * sz + (ys.take (N * sz)).length ≤ (vs ++ rest).toArray.size := by
        have : (lo + N) * sz ≤ m * sz := Nat.mul_le_mul_right _ (by omega)
        rw [Nat.add_mul] at this
        simp only [List.size_toArray, List.length_append, hytl, g1]; omega
      have hst := run_storeCells_at P b (lo * sz) e (ys.take (N * sz)) 0 (vs ++ rest).toArray w s2.block (by simpa using hfit) h1'
      simp only [Nat.add_zero] at hst
      have hrun : (Builtin.copy_ #[t, t'] ty #[.slice (some ⟨b, lo * sz, none⟩) dl c, u]).run P w = .ok (.int .i64 (N : Nat)) (w.setRow b ((vs ++ rest).toArray.toList.take (lo * sz) ++ ys.take (N * sz) ++ (vs ++ rest).toArray.toList.drop (lo * sz + (ys.take (N * sz)).length)).toArray) := by
        simp only [Builtin.copy_, List.getElem?_toArray, List.getElem?_cons_zero, List.getElem?_cons_succ, Sem.run_bind, run_underlying ht, Result.andThen_ok, hlen, hN, hz, hf, hst, goInt, Sem.run_pure]
      rw [show (blkOf (.slice (some ⟨b, 0, none⟩) m cap)) = b from rfl, show offOf (.slice (some ⟨b, 0, none⟩) m cap) + lo * sz = lo * sz by simp [offOf], hrun]
      have e1 : (vs ++ rest).toArray.toList.take (lo * sz) ++ ys.take (N * sz) ++ (vs ++ rest).toArray.toList.drop (lo * sz + (ys.take (N * sz)).length) = (vs.take (lo * sz) ++ ys.take (N * sz) ++ vs.drop ((lo + N) * sz)) ++ rest := by
        have h3 : (lo + N) * sz ≤ m * sz := Nat.mul_le_mul_right _ (by omega)
        rw [Nat.add_mul] at h3 ⊢
        rw [hytl]
        show (vs ++ rest).take _ ++ _ ++ (vs ++ rest).drop _ = _
        rw [List.take_append_of_le_length (by omega), List.drop_append_of_le_length (by omega)]; simp only [List.append_assoc]
      have s3 := setRow_write (vs' := (vs.take (lo * sz) ++ ys.take (N * sz) ++ vs.drop ((lo + N) * sz)) ++ rest) s2
      rw [e1]
      have hlen2 : (vs.take (lo * sz) ++ ys.take (N * sz) ++ vs.drop ((lo + N) * sz)).length = vs.length := by
        have h3 : (lo + N) * sz ≤ m * sz := Nat.mul_le_mul_right _ (by omega)
        rw [Nat.add_mul] at h3 ⊢
        simp only [List.length_append, List.length_take, List.length_drop, g1]
        simp only [List.length_take] at hytl
        omega
      exact ⟨fun e => (by cases e), _, k', St.put hi (osl_own (by rw [hlen2]; exact g1) g2 g3 (by rw [List.length_append, hlen2, ← List.length_append]; exact g4) s3)⟩

/-! ### '==' of structs -/
/-- what '==' of two structs comes to -/
def EqAgg (P : Program) (T : TypeId) (xs ys : List Value) (b : Bool) : Prop := ∀ k w, (Op.equalIn (k + 10) T (.agg xs.toArray) (.agg ys.toArray)).run P w = .ok b w
theorem Dtu.eqS {t t' : TypeId} {xs ys : List Value} {b : Bool} (hg : P.eqGuardType P.depth t = false) (h : EqAgg P t xs ys b) (hx : ev f x = .agg xs.toArray) (hy : ev f y = .agg ys.toArray) : Dtu P n f E H ⟨d, .binOp .eql t x y t', ty, pos, aft, g⟩ (.bool b) := fun w0 s w a r => by
  simp only [execOp, r.eval, hx, hy, Sem.run_bind, run_eqGuard_agg w .eql t x y _ _ hg, Result.andThen_ok, run_eql_struct, h 9990 w, Sem.run_pure]
theorem Dtu.neS {t t' : TypeId} {xs ys : List Value} {b : Bool} (hg : P.eqGuardType P.depth t = false) (h : EqAgg P t xs ys b) (hx : ev f x = .agg xs.toArray) (hy : ev f y = .agg ys.toArray) : Dtu P n f E H ⟨d, .binOp .neq t x y t', ty, pos, aft, g⟩ (.bool (!b)) := fun w0 s w a r => by
  simp only [execOp, r.eval, hx, hy, Sem.run_bind, run_eqGuard_agg w .neq t x y _ _ hg, Result.andThen_ok, run_neq_struct, h 9990 w, Sem.run_pure]
/-- what '==' of two values comes to -/
def EqD (P : Program) (d : Nat) (T : TypeId) (x y : Value) (b : Bool) : Prop := ∀ w, (Op.equalIn d T x y).run P w = .ok b w
/-- the same, of a struct's fields -/
def FE (P : Program) (d : Nat) (xs ys : List Value) (fs : List Field) (b : Bool) : Prop := ∀ w, (Op.eqFields d xs.toArray ys.toArray fs).run P w = .ok b w
theorem EqD.int {d : Nat} {T : TypeId} {k k' : IntKind} {a b : Int} (h : P.underlying T = some (.int k')) : EqD P (d + 1) T (.int k a) (.int k b) (a == b) := fun w => run_equalIn_int w d T k k' a b h
theorem EqD.bool {d : Nat} {T : TypeId} {a b : Bool} (h : P.underlying T = some .bool) : EqD P (d + 1) T (.bool a) (.bool b) (a == b) := fun w => run_equalIn_bool w d T a b h
theorem FE.nil {d : Nat} {xs ys : List Value} : FE P d xs ys [] true := fun w => by simp [Op.eqFields]
theorem FE.cons {d : Nat} {xs ys : List Value} {fd : Field} {fs : List Field} {a b : Value} {r q : Bool} (hn : (fd.name == "_") = false) (ha : ∀ w, (part fd.type xs.toArray fd.offset).run P w = .ok a w) (hb : ∀ w, (part fd.type ys.toArray fd.offset).run P w = .ok b w) (he : EqD P d fd.type a b r) (hr : FE P d xs ys fs q) : FE P d xs ys (fd :: fs) (r && q) := fun w => by
  have hn' : fd.name ≠ "_" := by simpa using hn
  simp only [Op.eqFields, if_pos hn', Sem.run_bind, ha, hb, he w, Result.andThen_ok]
  cases r
  · simp
  · simpa using hr w
theorem part_v {T : TypeId} {off : Nat} {xs : List Value} {v : Value} (hT : ∀ w, (isAgg T).run P w = .ok false w) (hx : xs[off]? = some v) (w : World) : (part T xs.toArray off).run P w = .ok v w := by
  simp [part, hT, hx]
theorem part_a {T : TypeId} {off sz : Nat} {xs us : List Value} (hT : ∀ w, (isAgg T).run P w = .ok true w) (hz : ∀ w, (sizeOf T).run P w = .ok sz w) (hx : forceL ((xs.drop off).take sz) = some us) (w : World) : (part T xs.toArray off).run P w = .ok (.agg us.toArray) w := by
  obtain rfl := forceL_eq hx
  simp [part, hT, hz]
theorem EqD.struct {d : Nat} {T : TypeId} {fs : Array Field} {xs ys : List Value} {b : Bool} (hu : P.underlying T = some (.struct fs)) (hp : P.stoodInHeld T = false) (h : FE P d xs ys fs.toList b) : EqD P (d + 1) T (.agg xs.toArray) (.agg ys.toArray) b := fun w => by
  have e : P.fieldsOf T = fs := by simp [Program.fieldsOf, hu]
  rw [run_equalIn_struct w d T _ _ (by rw [e]; exact hu) hp, e]
  exact h w
theorem EqAgg.mk {T : TypeId} {xs ys : List Value} {b : Bool} (h : ∀ k, EqD P (k + 10) T (.agg xs.toArray) (.agg ys.toArray) b) : EqAgg P T xs ys b := fun k w => h k w
theorem Dtu.eqB {t t' : TypeId} {a b : Bool} (hu : P.underlying t = some .bool) (hx : ev f x = .bool a) (hy : ev f y = .bool b) : Dtu P n f E H ⟨d, .binOp .eql t x y t', ty, pos, aft, g⟩ (.bool (decide (a = b))) := fun w0 s w a' r => by
  have e : (eqGuard .eql t x y (.bool a) (.bool b)).run P w = .ok () w := rfl
  simp only [execOp, r.eval, hx, hy, Sem.run_bind, e, Result.andThen_ok, run_eql_bool w t a b hu, Sem.run_pure]
  cases a <;> cases b <;> rfl
theorem Dtu.neB {t t' : TypeId} {a b : Bool} (hu : P.underlying t = some .bool) (hx : ev f x = .bool a) (hy : ev f y = .bool b) : Dtu P n f E H ⟨d, .binOp .neq t x y t', ty, pos, aft, g⟩ (.bool (decide (a ≠ b))) := fun w0 s w a' r => by
  have e : (eqGuard .neq t x y (.bool a) (.bool b)).run P w = .ok () w := rfl
  have e2 : (binOp .neq t (.bool a) (.bool b)).run P w = .ok (.bool (!(a == b))) w := by
    have h : (Op.equal t (.bool a) (.bool b)).run P w = .ok (a == b) w := run_equalIn_bool w 9999 t a b hu
    simp only [binOp, Sem.run_bind, h, Result.andThen_ok, Sem.run_pure]
  simp only [execOp, r.eval, hx, hy, Sem.run_bind, e, Result.andThen_ok, e2, Sem.run_pure]
  cases a <;> cases b <;> rfl
theorem run_eqNil1 {d : Nat} {t e : TypeId} {a : Option Addr} (hu : P.underlying t = some (.pointer e)) (w : World) : (Op.equalIn (d + 1) t (.pointer a) (.pointer none)).run P w = .ok a.isNone w := by
  simp only [Op.equalIn, Sem.run_bind, run_underlying hu, Result.andThen_ok]
  cases a <;> simp
theorem run_eqNil {t e : TypeId} {a : Option Addr} (hu : P.underlying t = some (.pointer e)) (w : World) : (Op.equal t (.pointer a) (.pointer none)).run P w = .ok a.isNone w := run_eqNil1 (d := 9999) hu w
theorem Dtu.eqNil {t t' e : TypeId} {a : Option Addr} (hu : P.underlying t = some (.pointer e)) (hx : ev f x = .pointer a) (hy : ev f y = .pointer none) : Dtu P n f E H ⟨d, .binOp .eql t x y t', ty, pos, aft, g⟩ (.bool a.isNone) := fun w0 s w a' r => by
  have e : (eqGuard .eql t x y (.pointer a) (.pointer none)).run P w = .ok () w := rfl
  simp only [execOp, r.eval, hx, hy, Sem.run_bind, e, Result.andThen_ok, binOp, run_eqNil hu w, Sem.run_pure]
theorem Dtu.neNil {t t' e : TypeId} {a : Option Addr} (hu : P.underlying t = some (.pointer e)) (hx : ev f x = .pointer a) (hy : ev f y = .pointer none) : Dtu P n f E H ⟨d, .binOp .neq t x y t', ty, pos, aft, g⟩ (.bool (!a.isNone)) := fun w0 s w a' r => by
  have e : (eqGuard .neq t x y (.pointer a) (.pointer none)).run P w = .ok () w := rfl
  simp only [execOp, r.eval, hx, hy, Sem.run_bind, e, Result.andThen_ok, binOp, run_eqNil hu w, Sem.run_pure]
/-- strings -/
theorem Dtu.eqStr {t t' : TypeId} {a b : ByteArray} (hx : ev f x = .string a) (hy : ev f y = .string b) : Dtu P n f E H ⟨d, .binOp .eql t x y t', ty, pos, aft, g⟩ (.bool (decide (a.toList = b.toList))) := fun w0 s w a' r => by
  have e : (eqGuard .eql t x y (.string a) (.string b)).run P w = .ok () w := rfl
  simp only [execOp, r.eval, hx, hy, Sem.run_bind, e, Result.andThen_ok, binOp, Op.stringOp, Sem.run_pure]
  by_cases h : a.toList = b.toList <;> simp [h]
theorem Dtu.neStr {t t' : TypeId} {a b : ByteArray} (hx : ev f x = .string a) (hy : ev f y = .string b) : Dtu P n f E H ⟨d, .binOp .neq t x y t', ty, pos, aft, g⟩ (.bool (decide (a.toList ≠ b.toList))) := fun w0 s w a' r => by
  have e : (eqGuard .neq t x y (.string a) (.string b)).run P w = .ok () w := rfl
  simp only [execOp, r.eval, hx, hy, Sem.run_bind, e, Result.andThen_ok, binOp, Op.stringOp, Sem.run_pure]
  by_cases h : a.toList = b.toList <;> simp [h]
end
end Go.Sx
