/- Slices that are made, grown and copied. -/
import Derived.Test.YtijjjdljdjnbaaaSx5
namespace Go.Sx
open Go

theorem one_all {us : List Value} (h : us.all (·.oneCell') = true) : ∀ u ∈ us, u.oneCell' = true := fun u hu => List.all_eq_true.1 h u hu

theorem St.draw {E : Env} {H : List HProp} {w : World} (s : St E H w) : St E H w.drew := s.ext ⟨Hp.Le.refl _, rfl, rfl, rfl⟩
theorem St.allocA {E : Env} {H : List HProp} {w : World} (s : St E H w) (c : Array Value) (t : TypeId) : St E (own w.heap.size c.toList t :: H) (w.alloc (.cells c t)) ∧ Ext w (w.alloc (.cells c t)) := by
  have := s.alloc c.toList t
  simpa using this
theorem St.grow {E : Env} {H : List HProp} {w : World} (s : St E H w) (c : Array Value) (t : TypeId) : St E (own w.heap.size c.toList t :: H) (w.drew.alloc (.cells c t)) ∧ Ext w (w.drew.alloc (.cells c t)) :=
  ⟨(s.draw.allocA c t).1, Ext.trans (b := w.drew) ⟨Hp.Le.refl _, rfl, rfl, rfl⟩ (s.draw.allocA c t).2⟩

theorem madeCells_list {zs : List Value} {sz : Nat} (hz : zs.length = sz) : ∀ m, (madeCells zs.toArray (m * sz)).toList = (List.replicate m zs).flatten
  | 0 => by simp [madeCells]
  | m + 1 => by
    have ih := madeCells_list hz m
    subst hz
    generalize hn : zs.length = sz at *
    unfold madeCells at ih ⊢
    simp only [Array.toList_map, Array.toList_range, List.size_toArray, hn] at ih ⊢
    rw [show (m + 1) * sz = sz + m * sz by rw [Nat.succ_mul, Nat.add_comm], List.range_add, List.map_append, List.map_map, List.replicate_succ, List.flatten_cons]
    congr 1
    · apply List.ext_getElem?
      intro j
      rw [List.getElem?_map]
      by_cases hj : j < sz
      · rw [List.getElem?_range hj, List.getElem?_eq_getElem (by omega)]
        have hj' : j < zs.length := by omega
        simp [Nat.mod_eq_of_lt hj, List.getElem?_eq_getElem hj']
      · rw [List.getElem?_eq_none (by simp; omega), List.getElem?_eq_none (by omega)]; rfl
    · rw [← ih]
      apply List.map_congr_left
      intro j _
      simp [Nat.add_mod_left]

/-- what append does to an owned slice, or to one of no room, that grows -/
theorem run_append_osl {P : Program} {t e : TypeId} {ty : TypeId} {sz bytes : Nat} {z : List Value} {E : Env} {H : List HProp} {w : World} {v x : Value} {m k : Nat} {vs ys : List Value}
    (ht : P.underlying t = some (.slice e)) (hT : Ty P e sz bytes z) (hz : z.length = sz) (s : St E (osl e sz v m vs :: H) w) (hsrc : SlW w sz x k ys) (h1 : ys.all (·.oneCell') = true) (hb : (m + k) * bytes ≤ 140737488355328) (h63 : m + k ≤ maxLen) :
    ∃ v' w', (Builtin.append_ #[t, t] ty #[v, x]).run P w = .ok v' w' ∧ St E (osl e sz v' (m + k) (vs ++ ys) :: H) w' := by
  obtain ⟨i, zv, hi, hisz, hiby, hiz, hzc⟩ := hT.info
  have hzs : zv.cells.size = sz := by rw [hzc]; simpa using hz
  have hml : maxLen = 9223372036854775807 := by unfold maxLen; rfl
  rcases hsrc.val with ⟨rfl, a, c, rfl, _⟩ | ⟨cap', hx, hc1, hc2, hcell⟩
  · -- nothing is appended
    have hys : ys = [] := List.eq_nil_of_length_eq_zero (by simpa using hsrc.len)
    subst hys
    have hf : ∀ w, (Builtin.firstCells sz 0 (.slice a 0 c)).run P w = .ok #[] w := fun w => by
      cases a <;> simp [Builtin.firstCells, loadCells, loadCellsFrom]
    rcases osl_cases s with ⟨b, rfl, rfl, rfl, s2⟩ | ⟨b, cap, rest, rfl, g1, g2, g3, g4, s2⟩
    · refine ⟨.slice b 0 0, w, ?_, by simpa using osl_nil s2⟩
      have hst : ∀ (o : Option Addr), (do if let some a := o then storeCells (a.add (0 * sz)) [] : Sem Unit).run P w = .ok () w := fun o => by cases o <;> rfl
      cases b <;> simp [Builtin.append_, run_underlying ht, hT.size, Builtin.lenOf, hf, storeCells]
    · refine ⟨.slice (some ⟨b, 0, none⟩) m cap, w, ?_, by simpa using s⟩
      simp [Builtin.append_, run_underlying ht, hT.size, Builtin.lenOf, hf, storeCells, g2]
  · generalize blkOf x = xb at *
    generalize offOf x = xo at *
    subst hx
    have hnews : ∀ j u, ys[j]? = some u → w.cell? ((⟨xb, xo, none⟩ : Addr).add j) = some u := fun j u hj => by rw [addr_add]; exact hcell j u hj
    have hl : ys.length = k * i.size := by rw [hisz]; exact hsrc.len
    rcases osl_cases s with ⟨b, rfl, rfl, rfl, s2⟩ | ⟨b, cap, rest, rfl, g1, g2, g3, g4, s2⟩
    · by_cases hk : k = 0
      · subst hk
        have hys : ys = [] := List.eq_nil_of_length_eq_zero (by simpa using hsrc.len)
        subst hys
        refine ⟨.slice b 0 0, w, ?_, by simpa using osl_nil s2⟩
        cases b <;> simp [Builtin.append_, run_underlying ht, hT.size, Builtin.lenOf, Builtin.firstCells, loadCells, loadCellsFrom, storeCells]
      · have hfits : Builtin.nextslicecap (0 + k) 0 * i.bytes ≤ 281474976710656 := growslice_fits (by omega) (by rw [hiby]; exact hb)
        have hge := grownCap_ge w (0 + k) 0 e
        have hcm : grownCap w (0 + k) 0 e ≤ maxLen := grownCap_le_maxLen w (0 + k) 0 e h63
        have hrun : (Builtin.append_ #[t, t] ty #[.slice b 0 0, .slice (some ⟨xb, xo, none⟩) k cap']).run P w =
            .ok (.slice (some ⟨w.heap.size, 0, none⟩) (0 + k) (grownCap w (0 + k) 0 e)) (w.drew.alloc (.cells ((([] : List Value).toArray ++ ys.toArray ++ Builtin.zeroCells zv.cells (grownCap w (0 + k) 0 e - (0 + k)))) e)) := by
          cases b with
          | none =>
            have := run_append_nil (P := P) w t ty e i zv ht hi hiz ⟨xb, xo, none⟩ k cap' ys hl hnews (by omega) (by omega) (by rw [hiby]; simp at hb; omega)
            simpa using this
          | some b => exact run_append_grow (P := P) w t ty e i zv ht hi hiz b 0 0 [] (by simp) (by simp) ⟨xb, xo, none⟩ k cap' ys hl hnews (by omega) (by omega) hfits
        refine ⟨_, _, hrun, ?_⟩
        obtain ⟨s3, _⟩ := s2.grow (([] : List Value).toArray ++ ys.toArray ++ Builtin.zeroCells zv.cells (grownCap w (0 + k) 0 e - (0 + k))) e
        have e1 : (([] : List Value).toArray ++ ys.toArray ++ Builtin.zeroCells zv.cells (grownCap w (0 + k) 0 e - (0 + k))).toList = ([] ++ ys) ++ (Builtin.zeroCells zv.cells (grownCap w (0 + k) 0 e - (0 + k))).toList := by simp
        rw [e1] at s3
        exact osl_own (by simpa using hsrc.len) hge hcm (by
          simp only [List.nil_append, List.length_append, Array.length_toList, size_zeroCells, hzs, hsrc.len, ← Nat.add_mul]; congr 1; omega) s3
    · by_cases hroom : m + k ≤ cap
      · have hfit : m * i.size + ys.length ≤ (vs ++ rest).toArray.size := by
          simp only [List.size_toArray]
          rw [g4, hisz, hsrc.len, ← Nat.add_mul]; exact Nat.mul_le_mul_right _ hroom
        have hr := run_append_room (P := P) w t ty e i ht hi b m cap (vs ++ rest).toArray s2.block ⟨xb, xo, none⟩ k cap' ys hl hnews (one_all h1) hroom hfit
        refine ⟨_, _, hr, ?_⟩
        have hvs : m * i.size = vs.length := by rw [hisz, g1]
        have e1 : (vs ++ rest).toArray.toList.take (m * i.size) ++ ys ++ (vs ++ rest).toArray.toList.drop (m * i.size + ys.length) = (vs ++ ys) ++ rest.drop ys.length := by
          rw [hvs]; simp only [List.take_left]; rw [List.drop_append]; simp
        rw [e1]
        have s3 := setRow_write (vs' := (vs ++ ys) ++ rest.drop ys.length) s2
        have hrest : ys.length ≤ rest.length := by
          simp only [List.size_toArray, List.length_append] at hfit; rw [hvs] at hfit; omega
        exact osl_own (by rw [List.length_append, g1, hsrc.len, Nat.add_mul]) hroom g3 (by
          rw [← g4]; simp only [List.length_append, List.length_drop]; omega) s3
      · have hold : ∀ j u, vs[j]? = some u → w.cell? ((⟨b, 0, none⟩ : Addr).add j) = some u := fun j u hj => by
          rw [addr_add, Nat.zero_add]
          refine cell_of_heap s2.block ?_
          rw [List.getElem?_toArray, List.getElem?_append_left (List.getElem?_eq_some_iff.1 hj).1]; exact hj
        have hfits : Builtin.nextslicecap (m + k) cap * i.bytes ≤ 281474976710656 := growslice_fits (by omega) (by rw [hiby]; exact hb)
        have hr := run_append_grow (P := P) w t ty e i zv ht hi hiz ⟨b, 0, none⟩ m cap vs (by rw [hisz]; exact g1) hold ⟨xb, xo, none⟩ k cap' ys hl hnews (by omega) (by omega) hfits
        have hge := grownCap_ge w (m + k) cap e
        have hcm : grownCap w (m + k) cap e ≤ maxLen := grownCap_le_maxLen w (m + k) cap e h63
        refine ⟨_, _, hr, ?_⟩
        obtain ⟨s3, _⟩ := s2.drop.grow (vs.toArray ++ ys.toArray ++ Builtin.zeroCells zv.cells (grownCap w (m + k) cap e - (m + k))) e
        have e1 : (vs.toArray ++ ys.toArray ++ Builtin.zeroCells zv.cells (grownCap w (m + k) cap e - (m + k))).toList = (vs ++ ys) ++ (Builtin.zeroCells zv.cells (grownCap w (m + k) cap e - (m + k))).toList := by simp
        rw [e1] at s3
        exact osl_own (by rw [List.length_append, g1, hsrc.len, Nat.add_mul]) hge hcm (by
          simp only [List.length_append, Array.length_toList, size_zeroCells, hzs, g1, hsrc.len, ← Nat.add_mul]; congr 1; omega) s3

section
variable {P : Program} {n : Nat} {f : Fr} {E : Env} {H : List HProp} {d : Option Nat} {ty : TypeId} {pos : String} {aft : Array Edge} {g : Option (Nat × Bool)} {x y z : Operand} {K : Value → List HProp → Prop}

theorem Body.addNil {c : Code} {K : Kont} (t : TypeId) (sz : Nat) (a : Option Addr) (h : Body P n c f E (osl t sz (.slice a 0 0) 0 [] :: H) K) : Body P n c f E H K := Body.conseq (fun _ s => osl_nil s) h
theorem Ops.addNil {all : Array Oper} {l : List Oper} {K : Kont} (t : TypeId) (sz : Nat) (a : Option Addr) (h : Ops P n all l f E (osl t sz (.slice a 0 0) 0 [] :: H) K) : Ops P n all l f E H K := fun w a r d s => h w a r d (osl_nil s)
theorem Stp.addNil {q : Bool} {o : Oper} (t : TypeId) (sz : Nat) (a : Option Addr) (h : Stp q P n f E (osl t sz (.slice a 0 0) 0 [] :: H) o K) : Stp q P n f E H o K := fun w a r s => h w a r (osl_nil s)

theorem run_append_op {t : TypeId} {a : Act} (r : Rel n f a.tmps) {u v : Value} (hx : ev f x = u) (hy : ev f y = v) (w : World) :
    (execOp a.eval ⟨d, .call { callee := .builtin .append, args := #[x, y], argTypes := #[t, t] }, ty, pos, aft, g⟩).run P w = ((Builtin.append_ #[t, t] ty #[u, v]).run P w).andThen fun v w' => .ok (.value v) w' := by
  simp [execOp, r.eval, hx, hy, resolve, invoke, builtin]
/-- append to an owned slice -/
theorem Stp.append (i : Nat) {t e : TypeId} {sz bytes m k : Nat} {v u : Value} {vs ys zs : List Value} (ht : P.underlying t = some (.slice e)) (hT : Ty P e sz bytes zs) (hz : zs.length = sz) (hi : H[i]? = some (osl e sz v m vs)) (hx : ev f x = v) (hy : ev f y = u)
    (hs : Sl E H sz u k ys) (h1 : ys.all (·.oneCell') = true) (hb : (m + k) * bytes ≤ 140737488355328) (h63 : m + k ≤ 9223372036854775807) (k' : ∀ v', K v' (H.set i (osl e sz v' (m + k) (vs ++ ys)))) :
    Stp false P n f E H ⟨d, .call { callee := .builtin .append, args := #[x, y], argTypes := #[t, t] }, ty, pos, aft, g⟩ K := fun w a r s => by
  obtain ⟨v', w', hr, s'⟩ := run_append_osl (ty := ty) ht hT hz (s.get hi) (hs w s) h1 hb (by unfold maxLen; exact h63)
  unfold OpR
  rw [run_append_op r hx hy w, hr]
  exact ⟨fun e => (by cases e), _, k' v', St.put hi s'⟩
/-- append to a slice of no room: a new one -/
theorem Stp.appendNew {t e : TypeId} {sz bytes k : Nat} {b : Option Addr} {u : Value} {ys zs : List Value} (ht : P.underlying t = some (.slice e)) (hT : Ty P e sz bytes zs) (hz : zs.length = sz) (hx : ev f x = .slice b 0 0) (hy : ev f y = u)
    (hs : Sl E H sz u k ys) (h1 : ys.all (·.oneCell') = true) (hb : k * bytes ≤ 140737488355328) (h63 : k ≤ 9223372036854775807) (k' : ∀ v', K v' (osl e sz v' k ys :: H)) :
    Stp false P n f E H ⟨d, .call { callee := .builtin .append, args := #[x, y], argTypes := #[t, t] }, ty, pos, aft, g⟩ K := fun w a r s => by
  obtain ⟨v', w', hr, s'⟩ := run_append_osl (ty := ty) ht hT hz (osl_nil (t := e) (sz := sz) (a := b) s) (hs w s) h1 (by simpa using hb) (by unfold maxLen; omega)
  unfold OpR
  rw [run_append_op r hx hy w, hr]
  simp only [Nat.zero_add, List.nil_append] at s'
  exact ⟨fun e => (by cases e), _, k' v', s'⟩
/-- append to a slice that has no room left, and is not written: a new one -/
theorem Stp.appendFull {t e : TypeId} {sz bytes m k : Nat} {v u : Value} {vs ys zs : List Value} (ht : P.underlying t = some (.slice e)) (hT : Ty P e sz bytes zs) (hz : zs.length = sz) (hx : ev f x = v) (hy : ev f y = u)
    (hv : Sl E H sz v m vs) (hcap : capOf v = m) (hs : Sl E H sz u k ys) (hk : 0 < k) (hb : (m + k) * bytes ≤ 140737488355328) (h63 : m + k ≤ 9223372036854775807) (k' : ∀ v', K v' (osl e sz v' (m + k) (vs ++ ys) :: H)) :
    Stp true P n f E H ⟨d, .call { callee := .builtin .append, args := #[x, y], argTypes := #[t, t] }, ty, pos, aft, g⟩ K := fun w a r s => by
  obtain ⟨i, zv, hi, hisz, hiby, hiz, hzc⟩ := hT.info
  have hzs : zv.cells.size = sz := by rw [hzc]; simpa using hz
  have hsrc := hs w s
  have hbase := hv w s
  have hml : maxLen = 9223372036854775807 := by unfold maxLen; rfl
  rcases hsrc.val with ⟨rfl, _⟩ | ⟨cap', hux, hc1, hc2, hcell⟩
  · omega
  have hnews : ∀ j q, ys[j]? = some q → w.cell? ((⟨blkOf u, offOf u, none⟩ : Addr).add j) = some q := fun j q hj => by rw [addr_add]; exact hcell j q hj
  have hl : ys.length = k * i.size := by rw [hisz]; exact hsrc.len
  have hfits : Builtin.nextslicecap (m + k) m * i.bytes ≤ 281474976710656 := growslice_fits (by omega) (by rw [hiby]; exact hb)
  have hge := grownCap_ge w (m + k) m e
  have hcm : grownCap w (m + k) m e ≤ maxLen := grownCap_le_maxLen w (m + k) m e (by omega)
  have hrun : (Builtin.append_ #[t, t] ty #[v, u]).run P w = .ok (.slice (some ⟨w.heap.size, 0, none⟩) (m + k) (grownCap w (m + k) m e)) (w.drew.alloc (.cells (vs.toArray ++ ys.toArray ++ Builtin.zeroCells zv.cells (grownCap w (m + k) m e - (m + k))) e)) := by
    rcases hbase.val with ⟨rfl, a, c, hva, _⟩ | ⟨cap, hva, hc3, hc4, hcell2⟩
    · have hvs : vs = [] := List.eq_nil_of_length_eq_zero (by simpa using hbase.len)
      subst hvs
      rw [hva] at hcap
      simp only [capOf] at hcap
      subst hcap
      rw [hva, hux]
      cases a with
      | none =>
        have := run_append_nil (P := P) w t ty e i zv ht hi hiz ⟨blkOf u, offOf u, none⟩ k cap' ys hl hnews (by omega) (by omega) (by rw [hiby]; simp at hb; omega)
        simpa using this
      | some b => exact run_append_grow (P := P) w t ty e i zv ht hi hiz b 0 0 [] (by simp) (by simp) ⟨blkOf u, offOf u, none⟩ k cap' ys hl hnews (by omega) (by omega) hfits
    · have hcap2 : cap = m := by rw [hva] at hcap; exact hcap
      have hold : ∀ j q, vs[j]? = some q → w.cell? ((⟨blkOf v, offOf v, none⟩ : Addr).add j) = some q := fun j q hj => by rw [addr_add]; exact hcell2 j q hj
      rw [hva, hux, hcap2]
      exact run_append_grow (P := P) w t ty e i zv ht hi hiz ⟨blkOf v, offOf v, none⟩ m m vs (by rw [hisz]; exact hbase.len) hold ⟨blkOf u, offOf u, none⟩ k cap' ys hl hnews (by omega) (by omega) hfits
  obtain ⟨s3, x3⟩ := s.grow (vs.toArray ++ ys.toArray ++ Builtin.zeroCells zv.cells (grownCap w (m + k) m e - (m + k))) e
  have e1 : (vs.toArray ++ ys.toArray ++ Builtin.zeroCells zv.cells (grownCap w (m + k) m e - (m + k))).toList = (vs ++ ys) ++ (Builtin.zeroCells zv.cells (grownCap w (m + k) m e - (m + k))).toList := by simp
  rw [e1] at s3
  have s4 := osl_own (by rw [List.length_append, hbase.len, hsrc.len, Nat.add_mul]) hge hcm (by
    simp only [List.length_append, Array.length_toList, size_zeroCells, hzs, hbase.len, hsrc.len, ← Nat.add_mul]; congr 1; omega) s3
  unfold OpR
  rw [run_append_op r hx hy w, hrun]
  exact ⟨fun _ => x3, _, k' _, s4⟩

/-! ### make -/
/-- a slice written out, owned as a slice -/
theorem Stp.buildSliceO {T e : TypeId} {len sz bytes : Nat} {zs : List Value} {ps : List (Nat × Operand)} {qs : List (Nat × Value)} {vs : List Value} (hu : P.underlying T = some (.slice e)) (ht : Ty P e sz bytes zs) (h24 : len * sz ≤ 2 ^ 24) (h0 : len * sz ≠ 0) (hq : ps.map (fun p => (p.1, ev f p.2)) = qs)
    (_hc : collect (fun c => findCell (fun i => some (i * sz, sz)) (List.replicate len zs).flatten c qs) 0 (len * sz) = some vs) (h' : fillL (fun i => some (i * sz, sz)) ((List.range (len * sz)).map (fun x => zs.toArray[x % zs.toArray.size]!)) qs = some vs) (hl : vs.length = len * sz) (h63 : len ≤ 9223372036854775807) (k : ∀ v, K v (osl e sz v len vs :: H)) : Stp true P n f E H ⟨d, .buildSlice T len ps.toArray, ty, pos, aft, g⟩ K := fun w a r s => by
  refine (Stp.buildSlice (K := fun v H' => ∃ b, v = .slice (some ⟨b, 0, none⟩) len len ∧ H' = own b vs e :: H) hu ht h24 h0 hq _hc h' (fun b => ⟨b, rfl, rfl⟩) w a r s).mono ?_
  rintro v w' ⟨x, _, ⟨b, rfl, rfl⟩, s'⟩
  exact ⟨x, _, k _, osl_own (rest := []) hl (Nat.le_refl _) (by simp only [maxLen]; exact h63) (by simpa using hl) (by simpa using s')⟩
theorem Stp.make {t e : TypeId} {sz bytes m : Nat} {zs : List Value} {kk kc : IntKind} {iv : Int} (ht : P.underlying t = some (.slice e)) (hT : Ty P e sz bytes zs) (hz : zs.length = sz) (hx : ev f x = .int kk iv) (hy : ev f y = .int kc iv) (hi : iv = (m : Int))
    (hb : bytes * m ≤ 281474976710656) (h63 : m ≤ 9223372036854775807) (k : ∀ v, K v (osl e sz v m (List.replicate m zs).flatten :: H)) : Stp true P n f E H ⟨d, .makeSlice t x y, ty, pos, aft, g⟩ K := fun w a r s => by
  obtain ⟨i, zv, hi', hisz, hiby, hiz, hzc⟩ := hT.info
  subst hi
  have hr := run_make (P := P) w t e i zv ht hi' hiz kk kc m m (by omega) (Int.le_refl _) (by rw [hiby, ← Int.natCast_mul]; omega) (by omega)
  have e1 : (execOp a.eval ⟨d, .makeSlice t x y, ty, pos, aft, g⟩).run P w = .ok (.value (.slice (some ⟨w.heap.size, 0, none⟩) m m)) (w.alloc (.cells (madeCells zv.cells (m * i.size)) e)) := by
    have : (execOp a.eval ⟨d, .makeSlice t x y, ty, pos, aft, g⟩).run P w = ((Instr.makeSlice t (.int kk (m : Int)) (.int kc (m : Int))).run P w).andThen fun v w' => .ok (.value v) w' := by
      simp [execOp, r.eval, hx, hy]
    rw [this, hr]; simp
  obtain ⟨s2, x2⟩ := s.allocA (madeCells zv.cells (m * i.size)) e
  have e2 : (madeCells zv.cells (m * i.size)).toList = (List.replicate m zs).flatten := by rw [hisz, hzc]; exact madeCells_list hz m
  have hlen : ((List.replicate m zs).flatten).length = m * sz := by simp [hz]
  rw [e2] at s2
  unfold OpR
  rw [e1]
  refine ⟨fun _ => x2, _, k _, osl_own (rest := []) hlen (Nat.le_refl _) (by simp only [maxLen]; exact h63) (by simpa using hlen) (by simpa using s2)⟩
end
end Go.Sx
