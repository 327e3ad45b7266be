/- Qk: SxC, SxD, RegA, RegB, RegC, RegD, RegE, RegF, RegG, RegH, RegI, OpenJ. -/
import Derived.Lib.ConvBytes
import Derived.Lib.LazyBuf
import Derived.Test.YtijjjdljdjnbaaaRda
import Derived.Test.YtijjjdljdjnbaaaRdb
import Derived.Test.YtijjjdljdjnbaaaRdc
import Derived.Test.YtijjjdljdjnbaaaRdd
import Derived.Test.YtijjjdljdjnbaaaRde
import Derived.Test.YtijjjdljdjnbaaaRdf
import Derived.Test.YtijjjdljdjnbaaaRdg
import Derived.Test.YtijjjdljdjnbaaaRdh
import Derived.Test.YtijjjdljdjnbaaaRdi
import Derived.Test.YtijjjdljdjnbaaaRdj
section
/- My own logic of ownership over the model, part C: texts as bytes; functions that hold variables. -/
namespace Go.Sx
open Go
set_option linter.unusedVariables false
/-- an owned slice that is only read -/
def rsl (sz : Nat) (v : Value) (m : Nat) (vs : List Value) : HProp := fun h =>
  ∃ (b cap : Nat) (c : Array Value) (t : TypeId) (p : Nat × Nat), v = .slice (some ⟨b, 0, none⟩) m cap ∧ vs.length = m * sz ∧ m ≤ cap ∧ cap ≤ maxLen ∧ (∀ (j : Nat) (u : Value), vs[j]? = some u → c[j]? = some u) ∧ h = Hp.one b (.cells c t p)
theorem Sl.rsl {E : Env} {H : List HProp} (i : Nat) {sz m : Nat} {v : Value} {vs : List Value} (hi : H[i]? = some (Sx.rsl sz v m vs)) : Sl E H sz v m vs := fun w s => by
  obtain ⟨h, ⟨h1, h2, ⟨b, cap, c, t, p, rfl, e2, e3, e4, e5, rfl⟩, _, d, rfl⟩, _, l⟩ := (s.get hi).has
  have hb : w.heap[b]? = some (.cells c t p) := ((Hp.le_union_left _ _).trans l) b _ (by simp [Hp.one])
  refine ⟨e2, Nat.le_trans e3 e4, .inr ⟨cap, rfl, e3, e4, fun j u hj => ?_⟩⟩
  have := e5 j u hj
  simp [World.cell?, offOf, blkOf, hb, this]
theorem Sl.atR {E : Env} {sz m : Nat} {v : Value} {vs : List Value} (h : At (Sx.rsl sz v m vs) E) : Sl E [] sz v m vs := fun w s => by
  obtain ⟨x, ⟨b, cap, c, t, p, rfl, e2, e3, e4, e5, rfl⟩, le⟩ := h
  have hb : w.heap[b]? = some (.cells c t p) := (le.trans s.keep) b _ (by simp [Hp.one])
  refine ⟨e2, Nat.le_trans e3 e4, .inr ⟨cap, rfl, e3, e4, fun j u hj => ?_⟩⟩
  have := e5 j u hj
  simp [World.cell?, offOf, blkOf, hb, this]
/-- an object more -/
theorem St.more {E : Env} {H : List HProp} {w w' : World} (s : St E H w) (o : Obj) (A : HProp) (hA : A (Hp.one w.heap.size o)) (hold : ∀ j, j < w.heap.size → w'.heap[j]? = w.heap[j]?) (hnew : w'.heap[w.heap.size]? = some o) (hos : w'.os = w.os) (htape : w'.tape = w.tape) (hout : w'.output = w.output) :
    St E (A :: H) w' ∧ Ext w w' := by
  have hn : hpOf w w.heap.size = none := by simp [hpOf]
  have hle : (hpOf w).Le (hpOf w') := by
    intro n o' h
    have hlt : n < w.heap.size := by
      have : w.heap[n]? = some o' := h
      exact (Array.getElem?_eq_some_iff.1 this).1
    show w'.heap[n]? = some o'
    rw [hold n hlt]; exact h
  obtain ⟨h, a, dE, l⟩ := s.has
  have dn : ∀ x : Hp, x.Le (hpOf w) → (Hp.one w.heap.size o).Disj x := fun x lx => Hp.one_disj (by
    cases hx : x w.heap.size with
    | none => rfl
    | some o => have := lx _ _ hx; rw [hn] at this; cases this)
  refine ⟨⟨⟨(Hp.one w.heap.size o).union h, ⟨_, h, hA, a, dn h l, rfl⟩, Hp.Disj.union_right (dn _ s.keep).symm dE, Hp.union_le (Hp.one_le hnew) (l.trans hle)⟩,
    s.keep.trans hle, hos.trans s.os, htape.trans s.tape, hout.trans s.output⟩, ⟨hle, hos, htape, hout⟩⟩
/-- a text's bytes -/
def numsOf (s : ByteArray) : List Int := s.data.toList.map fun b => (b.toNat : Int)
theorem numsOf_len (s : ByteArray) : (numsOf s).length = s.size := by simp [numsOf]
theorem numsOf_byt (s : ByteArray) : ∀ i, i < (numsOf s).length → 0 ≤ (numsOf s)[i]! ∧ (numsOf s)[i]! < 256 := fun i hi => by
  rw [getElem!_pos _ i hi]
  simp only [numsOf, List.getElem_map]
  have := UInt8.toNat_lt (s.data.toList[i]'(by simpa [numsOf] using hi))
  omega
abbrev strCs (s : ByteArray) : List Value := (numsOf s).map (.int .u8)
theorem strCs_len (s : ByteArray) : (strCs s).length = s.size := by simp [strCs, numsOf_len]
theorem run_firstStr {P : Program} (sz : Nat) (s : ByteArray) (w : World) : (Builtin.firstCells sz s.size (.string s)).run P w = .ok (strCs s).toArray w := by
  simp only [Builtin.firstCells, Sem.run_pure]
  congr 1
  apply Array.toList_inj.1
  have e : (s.extract 0 s.size).data = s.data := by
    have : s.size = s.data.size := rfl
    rw [this]; simp
  rw [e]
  simp [strCs, numsOf]
theorem run_append_osl_s {P : Program} {t u e : TypeId} {ty : TypeId} {bytes : Nat} {z : List Value} {E : Env} {H : List HProp} {w : World} {v : Value} {s : ByteArray} {m : Nat} {vs : List Value}
    (ht : P.underlying t = some (.slice e)) (hu : P.underlying u = some .string) (hT : Ty P e 1 bytes z) (hz : z.length = 1) (st : St E (osl e 1 v m vs :: H) w) (hb : (m + s.size) * bytes ≤ 140737488355328) (h63 : m + s.size ≤ maxLen) :
    ∃ v' w', (Builtin.append_ #[t, u] ty #[v, .string s]).run P w = .ok v' w' ∧ St E (osl e 1 v' (m + s.size) (vs ++ strCs s) :: H) w' := by
  obtain ⟨i, zv, hi, hisz, hiby, hiz, hzc⟩ := hT.info
  have hzs : zv.cells.size = 1 := by rw [hzc]; simpa using hz
  have hml : maxLen = 9223372036854775807 := by unfold maxLen; rfl
  have hl := strCs_len s
  have h1 : ∀ u ∈ strCs s, u.oneCell' = true := by
    intro u hu
    obtain ⟨x, _, rfl⟩ := List.mem_map.1 hu
    rfl
  have hff := fun w => run_firstStr (P := P) 1 s w
  by_cases hk : s.size = 0
  · have hys : strCs s = [] := List.eq_nil_of_length_eq_zero (by omega)
    have hff0 : ∀ w, (Builtin.firstCells 1 0 (.string s)).run P w = .ok #[] w := fun w => by have := hff w; rw [hk, hys] at this; exact this
    rcases osl_cases st with ⟨b, rfl, rfl, rfl, s2⟩ | ⟨b, cap, rest, rfl, g1, g2, g3, g4, s2⟩
    · refine ⟨.slice b 0 0, w, ?_, by rw [hk, hys]; simpa using osl_nil s2⟩
      cases b <;> simp [Builtin.append_, run_underlying ht, run_underlying hu, hT.size, Builtin.lenOf, hff0, storeCells, hk]
    · refine ⟨.slice (some ⟨b, 0, none⟩) m cap, w, ?_, by rw [hk, hys]; simpa using st⟩
      simp [Builtin.append_, run_underlying ht, run_underlying hu, hT.size, Builtin.lenOf, hff0, storeCells, hk, g2]
  · rcases osl_cases st with ⟨b, rfl, rfl, rfl, s2⟩ | ⟨b, cap, rest, rfl, g1, g2, g3, g4, s2⟩
    · have hfits : Builtin.nextslicecap (0 + s.size) 0 * i.bytes ≤ 281474976710656 := growslice_fits (by omega) (by rw [hiby]; exact hb)
      have hge := grownCap_ge w (0 + s.size) 0 e
      have hcm : grownCap w (0 + s.size) 0 e ≤ maxLen := grownCap_le_maxLen w (0 + s.size) 0 e h63
      have h63' : ¬ (9223372036854775807 < (s.size : Int)) := by omega
      have h48' : ¬ (281474976710656 < Builtin.nextslicecap s.size 0 * i.bytes) := by simp only [Nat.zero_add] at hfits; omega
      have hrun : (Builtin.append_ #[t, u] ty #[.slice b 0 0, .string s]).run P w =
          .ok (.slice (some ⟨w.heap.size, 0, none⟩) (0 + s.size) (grownCap w (0 + s.size) 0 e)) (w.drew.alloc (.cells ((strCs s).toArray ++ Builtin.zeroCells zv.cells (grownCap w (0 + s.size) 0 e - (0 + s.size))) e)) := by
        have hf0 : ∀ w, (Builtin.firstCells 1 0 (.slice b 0 0)).run P w = .ok #[] w := fun w => by cases b <;> simp [Builtin.firstCells, loadCells, loadCellsFrom]
        simp [Builtin.append_, run_underlying ht, run_underlying hu, sizeOf, typeInfo, zeroValue, hi, hisz, hiz, Builtin.lenOf, hk, h63', h48', Question.forced, hff, hf0, newRow, grownCap]
      refine ⟨_, _, hrun, ?_⟩
      obtain ⟨s3, _⟩ := s2.grow ((strCs s).toArray ++ Builtin.zeroCells zv.cells (grownCap w (0 + s.size) 0 e - (0 + s.size))) e
      have e1 : ((strCs s).toArray ++ Builtin.zeroCells zv.cells (grownCap w (0 + s.size) 0 e - (0 + s.size))).toList = ([] ++ strCs s) ++ (Builtin.zeroCells zv.cells (grownCap w (0 + s.size) 0 e - (0 + s.size))).toList := by simp
      rw [e1] at s3
      exact osl_own (by simpa using hl) hge hcm (by
        simp only [List.nil_append, List.length_append, Array.length_toList, size_zeroCells, hzs, hl]; omega) s3
    · by_cases hroom : m + s.size ≤ cap
      · have hfit : m * i.size + (strCs s).length ≤ (vs ++ rest).toArray.size := by
          simp only [List.size_toArray]
          rw [g4, hisz, hl]; omega
        have hst := run_storeCells_at P b (m * i.size) e (strCs s) 0 (vs ++ rest).toArray w s2.block (by simpa using hfit) h1
        simp only [Nat.add_zero] at hst
        have hr : (Builtin.append_ #[t, u] ty #[.slice (some ⟨b, 0, none⟩) m cap, .string s]).run P w = .ok (.slice (some ⟨b, 0, none⟩) (m + s.size) cap) (w.setRow b ((vs ++ rest).toArray.toList.take (m * i.size) ++ strCs s ++ (vs ++ rest).toArray.toList.drop (m * i.size + (strCs s).length)).toArray) := by
          simp only [hisz] at hst ⊢
          simp [Builtin.append_, run_underlying ht, run_underlying hu, sizeOf, typeInfo, hi, hisz, Builtin.lenOf, hroom, hff, Addr.add_lit] at hst ⊢
          rw [hst]
          simp
        refine ⟨_, _, hr, ?_⟩
        have hvs : m * i.size = vs.length := by rw [hisz, g1]
        have e1 : (vs ++ rest).toArray.toList.take (m * i.size) ++ strCs s ++ (vs ++ rest).toArray.toList.drop (m * i.size + (strCs s).length) = (vs ++ strCs s) ++ rest.drop (strCs s).length := by
          rw [hvs]; simp only [List.take_left]; rw [List.drop_append]; simp
        rw [e1]
        have s3 := setRow_write (vs' := (vs ++ strCs s) ++ rest.drop (strCs s).length) s2
        have hrest : (strCs s).length ≤ rest.length := by
          simp only [List.size_toArray, List.length_append] at hfit; rw [hvs] at hfit; omega
        exact osl_own (by rw [List.length_append, g1, hl]; omega) hroom g3 (by
          rw [← g4]; simp only [List.length_append, List.length_drop]; omega) s3
      · have hold : ∀ j u, vs[j]? = some u → w.cell? ((⟨b, 0, none⟩ : Addr).add j) = some u := fun j u hj => by
          rw [addr_add, Nat.zero_add]
          refine cell_of_heap s2.block ?_
          rw [List.getElem?_toArray, List.getElem?_append_left (List.getElem?_eq_some_iff.1 hj).1]; exact hj
        have hfits : Builtin.nextslicecap (m + s.size) cap * i.bytes ≤ 281474976710656 := growslice_fits (by omega) (by rw [hiby]; exact hb)
        have h63' : ¬ (9223372036854775807 < ((m : Int) + (s.size : Int))) := by omega
        have h48' : ¬ (281474976710656 < Builtin.nextslicecap (m + s.size) cap * i.bytes) := by omega
        have hfo := run_firstCells_some (P := P) w.drew i.size m ⟨b, 0, none⟩ m cap vs (by rw [hisz]; exact g1) (by simpa using hold)
        have hr : (Builtin.append_ #[t, u] ty #[.slice (some ⟨b, 0, none⟩) m cap, .string s]).run P w =
            .ok (.slice (some ⟨w.heap.size, 0, none⟩) (m + s.size) (grownCap w (m + s.size) cap e)) (w.drew.alloc (.cells (vs.toArray ++ (strCs s).toArray ++ Builtin.zeroCells zv.cells (grownCap w (m + s.size) cap e - (m + s.size))) e)) := by
          rw [hisz] at hfo
          simp [Builtin.append_, run_underlying ht, run_underlying hu, sizeOf, typeInfo, zeroValue, hi, hisz, hiz, Builtin.lenOf, hroom, h63', h48', Question.forced, hff, hfo, newRow, grownCap]
          congr 2
          apply Array.ext'
          simp [List.append_assoc]
        have hge := grownCap_ge w (m + s.size) cap e
        have hcm : grownCap w (m + s.size) cap e ≤ maxLen := grownCap_le_maxLen w (m + s.size) cap e h63
        refine ⟨_, _, hr, ?_⟩
        obtain ⟨s3, _⟩ := s2.drop.grow (vs.toArray ++ (strCs s).toArray ++ Builtin.zeroCells zv.cells (grownCap w (m + s.size) cap e - (m + s.size))) e
        have e1 : (vs.toArray ++ (strCs s).toArray ++ Builtin.zeroCells zv.cells (grownCap w (m + s.size) cap e - (m + s.size))).toList = (vs ++ strCs s) ++ (Builtin.zeroCells zv.cells (grownCap w (m + s.size) cap e - (m + s.size))).toList := by simp
        rw [e1] at s3
        exact osl_own (by rw [List.length_append, g1, hl]; omega) hge hcm (by
          simp only [List.length_append, Array.length_toList, size_zeroCells, hzs, g1, hl]; omega) s3
section
variable {P : Program} {n : Nat} {f : Fr} {E : Env} {H : List HProp} {d : Option Nat} {ty : TypeId} {pos : String} {aft : Array Edge} {g : Option (Nat × Bool)} {x y z : Operand} {K : Value → List HProp → Prop}
/-- a text, as a []byte -/
theorem Stp.cvtSB {t t' e : TypeId} {s : ByteArray} (hs : P.underlying t = some .string) (hd : P.underlying t' = some (.slice e)) (he : P.underlying e = some (.int .u8)) (hx : ev f x = .string s) (hm : s.size ≤ 4294967296)
    (k : ∀ v, K v (Sx.rsl 1 v s.size ((numsOf s).map (.int .u8)) :: H)) : Stp true P n f E H ⟨d, .convert t t' x, ty, pos, aft, g⟩ K := fun w a r st => by
  have key := Lib.run_convert_string_bytes (P := P) w t t' e s hs hd he
  have hge := grownCap_ge w s.size 0 e
  have hcm : grownCap w s.size 0 e ≤ maxLen := grownCap_le_maxLen w s.size 0 e (by unfold maxLen; omega)
  have hmore := St.more (w' := Lib.bytesWorld w e s) st (.cells (Lib.bytesCells w e s) e ((Lib.bytesCells w e s).size, (Lib.bytesCells w e s).size + 1)) (Sx.rsl 1 (.slice (some ⟨w.heap.size, 0, none⟩) s.size (grownCap w s.size 0 e)) s.size ((numsOf s).map (.int .u8)))
    ⟨_, _, _, _, _, rfl, by simp [numsOf_len], hge, hcm, fun j u hj => by
      obtain ⟨hl, hu⟩ := List.getElem?_eq_some_iff.1 hj
      have hl' : j < s.data.size := by simpa [numsOf] using hl
      rw [← hu]
      have hl2 : j < s.size := hl'
      simp [Lib.bytesCells, Array.getElem?_append, hl2, numsOf], rfl⟩
    (fun j hj => Lib.bytesWorld_at_old w e s j hj) (Lib.bytesWorld_at_new w e s) rfl rfl rfl
  unfold OpR
  simp only [execOp, r.eval, hx, run_v, key, Result.andThen_ok]
  exact ⟨fun _ => hmore.2, _, k _, hmore.1⟩
/-- append of a text to owned bytes -/
theorem Stp.appendStr (i : Nat) {t u e : TypeId} {bytes m : Nat} {v : Value} {s : ByteArray} {vs zs : List Value} (ht : P.underlying t = some (.slice e)) (hu : P.underlying u = some .string) (hT : Ty P e 1 bytes zs) (hz : zs.length = 1) (hi : H[i]? = some (osl e 1 v m vs)) (hx : ev f x = v) (hy : ev f y = .string s)
    (hb : (m + s.size) * bytes ≤ 140737488355328) (h63 : m + s.size ≤ 9223372036854775807) (k' : ∀ v', K v' (H.set i (osl e 1 v' (m + s.size) (vs ++ strCs s)))) :
    Stp false P n f E H ⟨d, .call { callee := .builtin .append, args := #[x, y], argTypes := #[t, u] }, ty, pos, aft, g⟩ K := fun w a r st => by
  obtain ⟨v', w', hr, s'⟩ := run_append_osl_s (ty := ty) (s := s) ht hu hT hz (st.get hi) hb (by unfold maxLen; exact h63)
  unfold OpR
  have e : (execOp a.eval ⟨d, .call { callee := .builtin .append, args := #[x, y], argTypes := #[t, u] }, ty, pos, aft, g⟩).run P w = ((Builtin.append_ #[t, u] ty #[v, .string s]).run P w).andThen fun v w' => .ok (.value v) w' := by
    simp [execOp, r.eval, hx, hy, resolve, invoke, builtin]
  rw [e, hr]
  exact ⟨fun e => (by cases e), _, k' v', St.put hi s'⟩
/-- a function that holds variables -/
theorem Dtu.mkfC {fn : Go.Fn} {cs : List Operand} {vs : List Value} (hc : evs f cs = vs) : Dtu P n f E H ⟨d, .makeFunc fn #[] cs.toArray, ty, pos, aft, g⟩ (.func fn #[] vs.toArray) := fun w0 s w a' r => by
  subst hc
  simp [execOp, Instr.makeFunc, r.eval, evs]
theorem run_callC {fn : FuncId} {a : Act} (r : Rel n f a.tmps) (xs : List Operand) {ts : Array TypeId} {c : Operand} {cap : List Value} (hc : ev f c = .func (.func fn) #[] cap.toArray)
    (hcall : ∀ args w, (callFunc fn args).run P w = .ok (.enter fn args) w) (w : World) :
    (execOp a.eval ⟨d, .call { callee := .value c, args := xs.toArray, argTypes := ts }, ty, pos, aft, g⟩).run P w = .ok (.enter fn (evs f xs ++ cap).toArray) w := by
  simp [execOp, r.eval, resolve, hc, Deferred.ofValue, invoke, hcall, evs]
theorem Stp.callClo (is : List Nat) {Hc Hf : List HProp} (hp : pick is H = some (Hc, Hf)) {fn : FuncId} {xs : List Operand} {args cap : List Value} {ts : Array TypeId} {c : Operand} {Q : Value → List HProp → Prop}
    (hc : ev f c = .func (.func fn) #[] cap.toArray) (hcall : ∀ args w, (callFunc fn args).run P w = .ok (.enter fn args) w) (hx : evs f xs = args)
    (h : ∀ E', E.Le E' → (∀ A ∈ Hf, At A E') → Does P fn (args ++ cap).toArray E' Hc Q) (k : ∀ v A, Q v A → K v (A ++ Hf)) :
    Stp false P n f E H ⟨d, .call { callee := .value c, args := xs.toArray, argTypes := ts }, ty, pos, aft, g⟩ K := fun w a r s => by
  unfold OpR
  rw [run_callC r xs hc hcall w, hx]
  obtain ⟨E', le, hat, s1, back⟩ := (s.perm (pick_perm hp)).frame
  refine (h E' le hat w s1).mono ?_
  rintro e w' ⟨v, A, rfl, q, s'⟩
  exact ⟨v, rfl, fun e => (by cases e), A ++ Hf, k v A q, back A w' s'⟩
theorem EqD.str {D : Nat} {T : TypeId} {a b : ByteArray} (h : P.underlying T = some .string) : EqD P (D + 1) T (.string a) (.string b) (a.toList == b.toList) := fun w => run_equalIn_string w D T a b h
end
end Go.Sx
end
section
/- My own logic of ownership over the model, part D: open order where reads and stores may change places. -/
namespace Go.Sx
open Go
set_option linter.unusedVariables false
def AnyW (P : Program) (ops : Array Oper) (Q : Exit → Act → World → Prop) : Nat → Array Bool → Act → World → Prop
  | 0, listed, a, w => Region.ready .any ops listed = [] ∧ Q .normal a w
  | k + 1, listed, a, w => (Region.ready .any ops listed = [] → Q .normal a w) ∧
    ∀ i ∈ Region.ready .any ops listed, OpI P ops i a w fun a' w' => AnyW P ops Q k (listed.setIfInBounds i true) a' w'
theorem AnyW.wpAny {P : Program} {ops : Array Oper} {Q : Exit → Act → World → Prop} : ∀ (k : Nat) (listed : Array Bool) (a : Act) (w : World), AnyW P ops Q k listed a w → Go.wpAny P .any ops Q k listed a w
  | 0, _, _, _, h => h
  | k + 1, _, _, _, h => ⟨h.1, fun i hi => ((h.2 i hi).mono fun _ _ q => AnyW.wpAny k _ _ _ q).wpOp⟩
theorem AnyW.firstU {P : Program} {ops : Array Oper} {Q : Exit → Act → World → Prop} {i : Nat} {oi : Oper} {v : Value} (hi : ops[i]? = some oi) (hsel : ∀ (j : Nat) (o : Oper) cs b, ops[j]? = some o → o.op ≠ .select cs b) :
    ∀ (fuel : Nat) (listed : Array Bool) (a : Act) (w : World),
      (∀ j oj, ops[j]? = some oj → j ≠ i → listed.getD j true = false → (∀ e ∈ oj.after, Region.binds .any e = true → e.on ≠ i) → oi.apart ops oj = true) →
      i ∈ Region.ready .any ops listed → Yields P ops oi v a →
      AnyW P ops Q fuel (listed.setIfInBounds i true) (a.put oi.dst v) w → AnyW P ops Q (fuel + 1) listed a w := by
  intro fuel
  induction fuel with
  | zero =>
    intro listed a w _ hr hy H
    refine ⟨fun h => (by rw [h] at hr; cases hr), fun j hj => ?_⟩
    by_cases hji : j = i
    · subst hji; exact yieldsU_opI hi hy H
    · have := ready_mono hj hji
      rw [H.1] at this
      cases this
  | succ fuel ih =>
    intro listed a w hfree hr hy H
    refine ⟨fun h => (by rw [h] at hr; cases hr), fun j hj => ?_⟩
    by_cases hji : j = i
    · subst hji; exact yieldsU_opI hi hy H
    · have h1 := H.2 j (ready_mono hj hji)
      obtain ⟨hjun, oj, hoj, hall⟩ := mem_ready.1 hj
      have hnot : ∀ e ∈ oj.after, Region.binds .any e = true → e.on ≠ i := fun e he hb heq => by
        have h1 := hall e he hb
        rw [heq] at h1
        exact getD_tf (mem_ready.1 hr).1 h1
      have h2 := OpI.putU hoj (hfree j oj hoj hji hjun hnot) (fun cs b => hsel i oi cs b hi) (fun cs b => hsel j oj cs b hoj) hy h1
      have hfree' : ∀ k ok, ops[k]? = some ok → k ≠ i → (listed.setIfInBounds j true).getD k true = false →
          (∀ e ∈ ok.after, Region.binds .any e = true → e.on ≠ i) → oi.apart ops ok = true := fun k ok hk hki hun hno => by
        refine hfree k ok hk hki ?_ hno
        by_cases hjk : j = k
        · subst hjk; exact hjun
        · rw [getD_set_ne true hjk] at hun; exact hun
      refine h2.mono fun a' w' ⟨hy', h3⟩ => ih (listed.setIfInBounds j true) a' w' hfree' (ready_mono hr (Ne.symm hji)) hy' ?_
      rw [Array.setIfInBounds_comm _ _ hji]
      exact h3
/-- what is left of a region, in whatever order -/
def AW (P : Program) (n : Nat) (ops : Array Oper) (k : Nat) (listed : Array Bool) (f : Fr) (E : Env) (H : List HProp) (K : Kont) : Prop :=
  ∀ w a, Rel n f a.tmps → a.defers = [] → St E H w → AnyW P ops (Post n E K) k listed a w
section
variable {P : Program} {n : Nat} {f : Fr} {E : Env} {H : List HProp} {K : Kont} {ops : Array Oper} {k : Nat} {listed : Array Bool} {F : List Ent} {dd : Nat} {op : Op} {ty : TypeId} {pos : String} {aft : Array Edge} {v : Value}
theorem Body.drawW {id : Nat} {l : List Oper} (hm : P.follows .mixedOrders = true) (h : AW P n l.toArray l.length (Array.replicate l.length false) f E H K) : Body P n (.region id l.toArray true) f E H K := fun w a r d s =>
  wp_region_any hm (AnyW.wpAny _ _ _ _ (by
    have := h { w with drawn := w.drawn + 1 } a r d (s.ext ⟨Hp.Le.refl _, rfl, rfl, rfl⟩)
    simpa using this))
theorem AW.done (hr : (Region.ready .any ops listed).isEmpty = true) (h : K .norm f H) : AW P n ops k listed f E H K := fun w a r d s => by
  have hr' : Region.ready .any ops listed = [] := by simpa using hr
  cases k with
  | zero => exact ⟨hr', d, f, H, r, h, s⟩
  | succ k => exact ⟨fun _ => ⟨d, f, H, r, h, s⟩, fun i hi => by rw [hr'] at hi; cases hi⟩
theorem AW.firstU (i : Nat) {o : Oper} {v : Value} (hi : ops[i]? = some o) (hB : firstB ops listed i = true) (hg : o.guard = none) (hd : okD n o.dst = true) (h : Dtu P n f E H o v)
    (hk : AW P n ops k (listed.setIfInBounds i true) (updO f o.dst v) E H K) : AW P n ops (k + 1) listed f E H K := fun w a r d s => by
  simp only [firstB, Bool.and_eq_true] at hB
  have hr : i ∈ Region.ready .any ops listed := by simpa using hB.1.2
  exact AnyW.firstU hi (Region.noSelect_spec hB.1.1) k listed a w (Region.free_spec hi hB.2) hr (.inl ⟨wanted_none hg _, fun w' => h w s w' a r⟩)
    (hk w _ (r.put hd v) ((put_defers _ _ _).trans d) s)
theorem AW.u (i : Nat) (hi : ops[i]? = some ⟨some dd, op, ty, pos, aft, none⟩) (hB : firstB ops listed i = true) (h : Dtu P n (fr F) E H ⟨some dd, op, ty, pos, aft, none⟩ v) (hd : Nat.blt dd n = true)
    (hk : AW P n ops k (listed.setIfInBounds i true) (fr (.set dd v :: F)) E H K) : AW P n ops (k + 1) listed (fr F) E H K := AW.firstU i hi hB rfl hd h hk
/-- i comes up next -/
def AWI (P : Program) (n : Nat) (ops : Array Oper) (k : Nat) (listed : Array Bool) (f : Fr) (E : Env) (H : List HProp) (K : Kont) (i : Nat) : Prop :=
  ∀ w a, Rel n f a.tmps → a.defers = [] → St E H w → OpI P ops i a w fun a' w' => AnyW P ops (Post n E K) k (listed.setIfInBounds i true) a' w'
/-- each of these may come up next -/
def AWs (P : Program) (n : Nat) (ops : Array Oper) (k : Nat) (listed : Array Bool) (f : Fr) (E : Env) (H : List HProp) (K : Kont) : List Nat → Prop
  | [] => True
  | i :: r => AWI P n ops k listed f E H K i ∧ AWs P n ops k listed f E H K r
theorem AWs.get : ∀ {is : List Nat} {i : Nat}, AWs P n ops k listed f E H K is → i ∈ is → AWI P n ops k listed f E H K i
  | _ :: _, _, h, .head _ => h.1
  | _ :: _, _, h, .tail _ m => AWs.get h.2 m
theorem AW.more (is : List Nat) (hB : (Region.ready .any ops listed == is) = true) (hne : is.isEmpty = false) (h : AWs P n ops k listed f E H K is) : AW P n ops (k + 1) listed f E H K := fun w a r d s => by
  have hr : Region.ready .any ops listed = is := by simpa using hB
  refine ⟨fun e => ?_, fun j hj => ?_⟩
  · rw [hr] at e; rw [e] at hne; simp at hne
  · exact AWs.get h (hr ▸ hj) w a r d s
theorem AWI.mk {q : Bool} {i : Nat} {o : Oper} (hi : ops[i]? = some o) (hg : o.guard = none) (hd : okD n o.dst = true)
    (h : Stp q P n f E H o fun v H' => AW P n ops k (listed.setIfInBounds i true) (updO f o.dst v) E H' K) : AWI P n ops k listed f E H K i := fun w a r d s => by
  unfold OpI
  simp only [hi]
  rw [if_pos (wanted_none hg _)]
  refine (h w a r s).mono ?_
  rintro v w' ⟨x, H', kk, s'⟩
  exact kk w' _ (r.put hd v) ((put_defers _ _ _).trans d) s'
theorem AWI.d {i : Nat} (hi : ops[i]? = some ⟨some dd, op, ty, pos, aft, none⟩) (h : Det P n (fr F) E H ⟨some dd, op, ty, pos, aft, none⟩ v) (hd : Nat.blt dd n = true)
    (hk : AW P n ops k (listed.setIfInBounds i true) (fr (.set dd v :: F)) E H K) : AWI P n ops k listed (fr F) E H K i := AWI.mk hi rfl hd (Det.stp h hk)
theorem AWI.e {q : Bool} {i : Nat} (hi : ops[i]? = some ⟨none, op, ty, pos, aft, none⟩)
    (h : Stp q P n (fr F) E H ⟨none, op, ty, pos, aft, none⟩ fun _ H' => AW P n ops k (listed.setIfInBounds i true) (fr F) E H' K) : AWI P n ops k listed (fr F) E H K i := AWI.mk hi rfl rfl h
end
end Go.Sx
end
section
/- States: which may be; which are the same. -/
namespace Go.Proofs.Ytijjjdljdjnbaaa
set_option maxRecDepth 100000
set_option linter.unusedVariables false
set_option linter.unusedSimpArgs false
open Go.Sx

structure Stt where
  v : View
  title : ByteArray
  clip : ByteArray
  clips : Int
  bells : Int
def Stt.cells (x : Stt) (s : Value) : List Value := [.int .i64 x.v.rows, .int .i64 x.v.cols, s, .int .i64 x.v.row, .int .i64 x.v.col, .bool x.v.vis, .string x.title, .string x.clip, .int .u64 x.clips, .int .u64 x.bells]
def Stt.val (x : Stt) (s : Value) : Value := .agg (x.cells s).toArray
def Stt.ok (x : Stt) : Bool := x.v.ok && decide (x.title.size ≤ 64 ∧ x.clip.size ≤ 256 ∧ x.clips ≤ 4611686018427387903 ∧ x.bells ≤ 4611686018427387903)
theorem sright_ok (E : Env) (x : Stt) (s : Value) (h : x.v.has E [] s) : Does Try.prog 42 #[x.val s] E [] fun r H' => r = .bool x.ok ∧ H' = [] := by
  unfold View.has at h
  refine Does.pure h.isSl fun hs => ?_
  obtain ⟨sa, sm, sc, rfl⟩ := hs
  refine Does.go (args := [x.val _]) _ _ Try.func42 rfl Try.ntmps42 rfl rfl ?_
  refine Body.seq ?_
  refine Body.region ?_
  refine Ops.s (Stp.box (lk rfl) rfl (fun b1 => ?_)) rfl
  refine Ops.u (Dtu.asg (lk rfl)) rfl ?_
  refine Ops.nil ?_
  refine Then.next ?_
  refine Body.seq ?_
  refine Body.region ?_
  refine Ops.u (Dtu.fld fa77_0 (lk rfl)) rfl ?_
  refine Ops.d (Det.lda Try.isAgg24 Try.sizeOf24 (lk rfl) (Rds.ow (m := 6) 0 rfl rfl) rfl) rfl ?_
  refine Ops.s (Stp.call rfl Try.call25 (lks rfl) (fun E' le hat => right_ok E' ⟨_, _, _, _, _, _⟩ _ (Sl.mono (by assumption) le)) ?_) rfl
  rintro _ _ ⟨rfl, rfl⟩
  refine Ops.u (Dtu.mv (lk rfl)) rfl ?_
  refine Ops.dec 6 rfl (fun c6 => ?_) (fun c6 => ?_)
  · refine Ops.gu rfl rfl rfl (Dtu.fld fa77_1 (lk rfl)) rfl ?_
    refine Ops.gd rfl rfl rfl (Det.ld Try.isAgg9 (lk rfl) (Rd.ow 0 rfl rfl)) rfl ?_
    refine Ops.gu rfl rfl rfl (Dtu.lenStr Try.underlying9 (lk rfl)) rfl ?_
    refine Ops.gu rfl rfl rfl (Dtu.leq (lk rfl) (lk rfl)) rfl ?_
    refine Ops.u (Dtu.pickT (lk rfl) (lk rfl)) rfl ?_
    refine Ops.u (Dtu.mv (lk rfl)) rfl ?_
    refine Ops.decP 12 rfl (fun c12 => ?_) (fun c12 => ?_)
    · refine Ops.gu rfl rfl rfl (Dtu.fld fa77_2 (lk rfl)) rfl ?_
      refine Ops.gd rfl rfl rfl (Det.ld Try.isAgg9 (lk rfl) (Rd.ow 0 rfl rfl)) rfl ?_
      refine Ops.gu rfl rfl rfl (Dtu.lenStr Try.underlying9 (lk rfl)) rfl ?_
      refine Ops.gu rfl rfl rfl (Dtu.leq (lk rfl) (lk rfl)) rfl ?_
      refine Ops.u (Dtu.pickT (lk rfl) (lk rfl)) rfl ?_
      refine Ops.u (Dtu.mv (lk rfl)) rfl ?_
      refine Ops.decP 18 rfl (fun c18 => ?_) (fun c18 => ?_)
      · refine Ops.gu rfl rfl rfl (Dtu.fld fa77_3 (lk rfl)) rfl ?_
        refine Ops.gd rfl rfl rfl (Det.ld Try.isAgg75 (lk rfl) (Rd.ow 0 rfl rfl)) rfl ?_
        refine Ops.gu rfl rfl rfl (Dtu.leq (lk rfl) (lk rfl)) rfl ?_
        refine Ops.u (Dtu.pickT (lk rfl) (lk rfl)) rfl ?_
        refine Ops.u (Dtu.mv (lk rfl)) rfl ?_
        refine Ops.decP 23 rfl (fun c23 => ?_) (fun c23 => ?_)
        · refine Ops.gu rfl rfl rfl (Dtu.fld fa77_4 (lk rfl)) rfl ?_
          refine Ops.gd rfl rfl rfl (Det.ld Try.isAgg75 (lk rfl) (Rd.ow 0 rfl rfl)) rfl ?_
          refine Ops.gu rfl rfl rfl (Dtu.leq (lk rfl) (lk rfl)) rfl ?_
          refine Ops.u (Dtu.pickT (lk rfl) (lk rfl)) rfl ?_
          refine Ops.u (Dtu.asg (lk rfl)) rfl ?_
          refine Ops.nil ?_
          refine Then.next ?_
          refine Body.ret ?_
          (refine ⟨.inr rfl, _, pk [] rfl, bool_eq ?_, rfl⟩; show _ ↔ (View.ok ⟨x.v.rows, x.v.cols, x.v.cells, x.v.row, x.v.col, x.v.vis⟩ && decide _) = true; simp only [Bool.and_eq_true, decide_eq_true_eq, Bool.false_eq_true, Bool.true_eq_false, true_and, false_and, true_iff, false_iff, iff_true, iff_false, not_and, *] <;> first | omega | (intro _; omega) | simp | (constructor <;> intros <;> first | omega | (simp_all; omega)))
        · refine Ops.gn rfl rfl rfl rfl rfl ?_
          refine Ops.gn rfl rfl rfl rfl rfl ?_
          refine Ops.gn rfl rfl rfl rfl rfl ?_
          refine Ops.u (Dtu.pickF (lk rfl) (lk rfl)) rfl ?_
          refine Ops.u (Dtu.asg (lk rfl)) rfl ?_
          refine Ops.nil ?_
          refine Then.next ?_
          refine Body.ret ?_
          (refine ⟨.inr rfl, _, pk [] rfl, bool_eq ?_, rfl⟩; show _ ↔ (View.ok ⟨x.v.rows, x.v.cols, x.v.cells, x.v.row, x.v.col, x.v.vis⟩ && decide _) = true; simp only [Bool.and_eq_true, decide_eq_true_eq, Bool.false_eq_true, Bool.true_eq_false, true_and, false_and, true_iff, false_iff, iff_true, iff_false, not_and, *] <;> first | omega | (intro _; omega) | simp | (constructor <;> intros <;> first | omega | (simp_all; omega)))
      · refine Ops.gn rfl rfl rfl rfl rfl ?_
        refine Ops.gn rfl rfl rfl rfl rfl ?_
        refine Ops.gn rfl rfl rfl rfl rfl ?_
        refine Ops.u (Dtu.pickF (lk rfl) (lk rfl)) rfl ?_
        refine Ops.u (Dtu.mv (lk rfl)) rfl ?_
        refine Ops.gn rfl rfl rfl rfl rfl ?_
        refine Ops.gn rfl rfl rfl rfl rfl ?_
        refine Ops.gn rfl rfl rfl rfl rfl ?_
        refine Ops.u (Dtu.pickF (lk rfl) (lk rfl)) rfl ?_
        refine Ops.u (Dtu.asg (lk rfl)) rfl ?_
        refine Ops.nil ?_
        refine Then.next ?_
        refine Body.ret ?_
        (refine ⟨.inr rfl, _, pk [] rfl, bool_eq ?_, rfl⟩; show _ ↔ (View.ok ⟨x.v.rows, x.v.cols, x.v.cells, x.v.row, x.v.col, x.v.vis⟩ && decide _) = true; simp only [Bool.and_eq_true, decide_eq_true_eq, Bool.false_eq_true, Bool.true_eq_false, true_and, false_and, true_iff, false_iff, iff_true, iff_false, not_and, *] <;> first | omega | (intro _; omega) | simp | (constructor <;> intros <;> first | omega | (simp_all; omega)))
    · refine Ops.gn rfl rfl rfl rfl rfl ?_
      refine Ops.gn rfl rfl rfl rfl rfl ?_
      refine Ops.gn rfl rfl rfl rfl rfl ?_
      refine Ops.gn rfl rfl rfl rfl rfl ?_
      refine Ops.u (Dtu.pickF (lk rfl) (lk rfl)) rfl ?_
      refine Ops.u (Dtu.mv (lk rfl)) rfl ?_
      refine Ops.gn rfl rfl rfl rfl rfl ?_
      refine Ops.gn rfl rfl rfl rfl rfl ?_
      refine Ops.gn rfl rfl rfl rfl rfl ?_
      refine Ops.u (Dtu.pickF (lk rfl) (lk rfl)) rfl ?_
      refine Ops.u (Dtu.mv (lk rfl)) rfl ?_
      refine Ops.gn rfl rfl rfl rfl rfl ?_
      refine Ops.gn rfl rfl rfl rfl rfl ?_
      refine Ops.gn rfl rfl rfl rfl rfl ?_
      refine Ops.u (Dtu.pickF (lk rfl) (lk rfl)) rfl ?_
      refine Ops.u (Dtu.asg (lk rfl)) rfl ?_
      refine Ops.nil ?_
      refine Then.next ?_
      refine Body.ret ?_
      (refine ⟨.inr rfl, _, pk [] rfl, bool_eq ?_, rfl⟩; show _ ↔ (View.ok ⟨x.v.rows, x.v.cols, x.v.cells, x.v.row, x.v.col, x.v.vis⟩ && decide _) = true; simp only [Bool.and_eq_true, decide_eq_true_eq, Bool.false_eq_true, Bool.true_eq_false, true_and, false_and, true_iff, false_iff, iff_true, iff_false, not_and, *] <;> first | omega | (intro _; omega) | simp | (constructor <;> intros <;> first | omega | (simp_all; omega)))
  · refine Ops.gn rfl rfl rfl rfl rfl ?_
    refine Ops.gn rfl rfl rfl rfl rfl ?_
    refine Ops.gn rfl rfl rfl rfl rfl ?_
    refine Ops.gn rfl rfl rfl rfl rfl ?_
    refine Ops.u (Dtu.pickF (lk rfl) (lk rfl)) rfl ?_
    refine Ops.u (Dtu.mv (lk rfl)) rfl ?_
    refine Ops.gn rfl rfl rfl rfl rfl ?_
    refine Ops.gn rfl rfl rfl rfl rfl ?_
    refine Ops.gn rfl rfl rfl rfl rfl ?_
    refine Ops.gn rfl rfl rfl rfl rfl ?_
    refine Ops.u (Dtu.pickF (lk rfl) (lk rfl)) rfl ?_
    refine Ops.u (Dtu.mv (lk rfl)) rfl ?_
    refine Ops.gn rfl rfl rfl rfl rfl ?_
    refine Ops.gn rfl rfl rfl rfl rfl ?_
    refine Ops.gn rfl rfl rfl rfl rfl ?_
    refine Ops.u (Dtu.pickF (lk rfl) (lk rfl)) rfl ?_
    refine Ops.u (Dtu.mv (lk rfl)) rfl ?_
    refine Ops.gn rfl rfl rfl rfl rfl ?_
    refine Ops.gn rfl rfl rfl rfl rfl ?_
    refine Ops.gn rfl rfl rfl rfl rfl ?_
    refine Ops.u (Dtu.pickF (lk rfl) (lk rfl)) rfl ?_
    refine Ops.u (Dtu.asg (lk rfl)) rfl ?_
    refine Ops.nil ?_
    refine Then.next ?_
    refine Body.ret ?_
    (refine ⟨.inr rfl, _, pk [] rfl, bool_eq ?_, rfl⟩; show _ ↔ (View.ok ⟨x.v.rows, x.v.cols, x.v.cells, x.v.row, x.v.col, x.v.vis⟩ && decide _) = true; simp only [Bool.and_eq_true, decide_eq_true_eq, Bool.false_eq_true, Bool.true_eq_false, true_and, false_and, true_iff, false_iff, iff_true, iff_false, not_and, *] <;> first | omega | (intro _; omega) | simp | (constructor <;> intros <;> first | omega | (simp_all; omega)))
theorem clipping_ok (E : Env) (x : Stt) (a : Option Addr) (m c : Nat) : Does Try.prog 85 #[x.val (.slice a m c)] E [] fun r H' => r = .agg #[.string x.clip, .int .u64 x.clips] ∧ H' = [] := by
  refine Does.go (args := [x.val _]) _ _ Try.func85 rfl Try.ntmps85 rfl rfl ?_
  refine Body.seq ?_
  refine Body.region ?_
  refine Ops.s (Stp.box (lk rfl) rfl (fun b1 => ?_)) rfl
  refine Ops.s (Stp.alloc ty141 (fun b2 => ?_)) rfl
  refine Ops.nil ?_
  refine Then.next ?_
  refine Body.seq ?_
  refine Body.region ?_
  refine Ops.u (Dtu.fld fa77_2 (lk rfl)) rfl ?_
  refine Ops.d (Det.ld Try.isAgg9 (lk rfl) (Rd.ow 1 rfl rfl)) rfl ?_
  refine Ops.u (Dtu.fld fa77_3 (lk rfl)) rfl ?_
  refine Ops.d (Det.ld Try.isAgg75 (lk rfl) (Rd.ow 1 rfl rfl)) rfl ?_
  refine Ops.u (Dtu.build ty141 pl141 (lkp rfl) rfl rfl) rfl ?_
  refine Ops.e (Stp.store 0 Try.sizeOf141 (lk rfl) (lk rfl) rfl rfl rfl rfl rfl rfl rfl ?_)
  refine Ops.nil ?_
  refine Then.next ?_
  refine Body.ret ?_
  exact ⟨.inr rfl, _, Loads.agg Try.isAgg141 Try.sizeOf141 (Rds.ow (m := 2) 0 rfl rfl) rfl, _, pk [] rfl, rfl, rfl⟩
def Stt.clipE (x : Stt) : List Value := [.string x.clip, .int .u64 x.clips]
theorem eq141 (x y : Stt) : EqAgg Try.prog 141 x.clipE y.clipE ((x.clip.toList == y.clip.toList) && ((x.clips == y.clips) && true)) :=
  EqAgg.mk fun k => EqD.struct Try.underlying141 (by kernel_rfl) (FE.cons rfl (part_v Try.isAgg9 rfl) (part_v Try.isAgg9 rfl) (EqD.str Try.underlying9)
    (FE.cons rfl (part_v Try.isAgg75 rfl) (part_v Try.isAgg75 rfl) (EqD.int Try.underlying75) FE.nil))
theorem eqGuard141 : Try.prog.eqGuardType Try.prog.depth 141 = false := by kernel_rfl
def Stt.eqv (a b : Stt) : Prop := a.v = b.v ∧ a.title.toList = b.title.toList ∧ (a.clip.toList = b.clip.toList ∧ a.clips = b.clips) ∧ a.bells = b.bells
instance (a b : Stt) : Decidable (a.eqv b) := by unfold Stt.eqv; infer_instance
theorem ssame_ok (E : Env) (a b : Stt) (s t : Value) (ha : a.v.has E [] s) (hb : b.v.has E [] t) : Does Try.prog 44 #[a.val s, b.val t] E [] fun r H' => r = .bool (decide (a.eqv b)) ∧ H' = [] := by
  unfold View.has at ha hb
  refine Does.pure ha.isSl fun hs => ?_
  obtain ⟨sa, sm, sc, rfl⟩ := hs
  refine Does.pure hb.isSl fun hs => ?_
  obtain ⟨ta, tm, tc, rfl⟩ := hs
  refine Does.go (args := [a.val _, b.val _]) _ _ Try.func44 rfl Try.ntmps44 rfl rfl ?_
  refine Body.seq ?_
  refine Body.region ?_
  refine Ops.s (Stp.box (lk rfl) rfl (fun b2 => ?_)) rfl
  refine Ops.s (Stp.box (lk rfl) rfl (fun b3 => ?_)) rfl
  refine Ops.u (Dtu.asg (lk rfl)) rfl ?_
  refine Ops.nil ?_
  refine Then.next ?_
  refine Body.seq ?_
  refine Body.draw mixed ?_
  refine AB.u 0 rfl (by decide +kernel) (Dtu.fld fa77_0 (lk rfl)) rfl ?_
  refine AB.d 1 rfl (by decide +kernel) rfl (Det.lda Try.isAgg24 Try.sizeOf24 (lk rfl) (Rds.ow (m := 6) 1 rfl rfl) rfl) rfl ?_
  refine AB.u 2 rfl (by decide +kernel) (Dtu.fld fa77_0 (lk rfl)) rfl ?_
  refine AB.d 3 rfl (by decide +kernel) rfl (Det.lda Try.isAgg24 Try.sizeOf24 (lk rfl) (Rds.ow (m := 6) 0 rfl rfl) rfl) rfl ?_
  refine AB.s 4 rfl (by decide +kernel) (by decide +kernel) (Stp.call rfl Try.call26 (lks rfl) (fun E' le hat => same_ok E' ⟨_, _, _, _, _, _⟩ ⟨_, _, _, _, _, _⟩ _ _ (Sl.mono (by assumption) le) (Sl.mono (by assumption) le)) ?_) rfl
  rintro _ _ ⟨rfl, rfl⟩
  refine AB.u 5 rfl (by decide +kernel) (Dtu.mv (lk rfl)) rfl ?_
  refine AB.decP 10 rfl (fun c10 => ?_) (fun c10 => ?_)
  · refine AB.gu 6 rfl (by decide +kernel) rfl rfl rfl (Dtu.fld fa77_1 (lk rfl)) rfl ?_
    refine AB.gd 7 rfl (by decide +kernel) rfl rfl rfl rfl (Det.ld Try.isAgg9 (lk rfl) (Rd.ow 1 rfl rfl)) rfl ?_
    refine AB.gu 8 rfl (by decide +kernel) rfl rfl rfl (Dtu.fld fa77_1 (lk rfl)) rfl ?_
    refine AB.gd 9 rfl (by decide +kernel) rfl rfl rfl rfl (Det.ld Try.isAgg9 (lk rfl) (Rd.ow 0 rfl rfl)) rfl ?_
    refine AB.gu 10 rfl (by decide +kernel) rfl rfl rfl (Dtu.eqStr (lk rfl) (lk rfl)) rfl ?_
    refine AB.u 11 rfl (by decide +kernel) (Dtu.pickT (lk rfl) (lk rfl)) rfl ?_
    refine AB.u 12 rfl (by decide +kernel) (Dtu.mv (lk rfl)) rfl ?_
    refine AB.decP 17 rfl (fun c17 => ?_) (fun c17 => ?_)
    · refine AB.gd 13 rfl (by decide +kernel) rfl rfl rfl rfl (Det.lda Try.isAgg77 Try.sizeOf77 (lk rfl) (Rds.ow (m := 10) 1 rfl rfl) rfl) rfl ?_
      refine AB.gd 15 rfl (by decide +kernel) rfl rfl rfl rfl (Det.lda Try.isAgg77 Try.sizeOf77 (lk rfl) (Rds.ow (m := 10) 0 rfl rfl) rfl) rfl ?_
      refine AB.gs 14 rfl (by decide +kernel) (by decide +kernel) rfl rfl rfl (Stp.call rfl Try.call85 (lks rfl) (fun E' le hat => clipping_ok E' ⟨⟨_, _, _, _, _, _⟩, _, _, _, _⟩ _ _ _) ?_) rfl
      rintro _ _ ⟨rfl, rfl⟩
      refine AB.gs 16 rfl (by decide +kernel) (by decide +kernel) rfl rfl rfl (Stp.call rfl Try.call85 (lks rfl) (fun E' le hat => clipping_ok E' ⟨⟨_, _, _, _, _, _⟩, _, _, _, _⟩ _ _ _) ?_) rfl
      rintro _ _ ⟨rfl, rfl⟩
      refine AB.gu 17 rfl (by decide +kernel) rfl rfl rfl (Dtu.eqS eqGuard141 (eq141 _ _) (lk rfl) (lk rfl)) rfl ?_
      refine AB.u 18 rfl (by decide +kernel) (Dtu.pickT (lk rfl) (lk rfl)) rfl ?_
      refine AB.u 19 rfl (by decide +kernel) (Dtu.mv (lk rfl)) rfl ?_
      refine AB.dec 24 rfl (fun c24 => ?_) (fun c24 => ?_)
      · refine AB.gu 20 rfl (by decide +kernel) rfl rfl rfl (Dtu.fld fa77_4 (lk rfl)) rfl ?_
        refine AB.gd 21 rfl (by decide +kernel) rfl rfl rfl rfl (Det.ld Try.isAgg75 (lk rfl) (Rd.ow 1 rfl rfl)) rfl ?_
        refine AB.gu 22 rfl (by decide +kernel) rfl rfl rfl (Dtu.fld fa77_4 (lk rfl)) rfl ?_
        refine AB.gd 23 rfl (by decide +kernel) rfl rfl rfl rfl (Det.ld Try.isAgg75 (lk rfl) (Rd.ow 0 rfl rfl)) rfl ?_
        refine AB.gu 24 rfl (by decide +kernel) rfl rfl rfl (Dtu.eql (lk rfl) (lk rfl)) rfl ?_
        refine AB.u 25 rfl (by decide +kernel) (Dtu.pickT (lk rfl) (lk rfl)) rfl ?_
        refine AB.u 26 rfl (by decide +kernel) (Dtu.asg (lk rfl)) rfl ?_
        refine AB.done (by decide +kernel) ?_
        refine Then.next ?_
        refine Body.ret ?_
        (refine ⟨.inr rfl, _, pk [] rfl, bool_eq ?_, rfl⟩; show _ ↔ decide ((View.mk a.v.rows a.v.cols a.v.cells a.v.row a.v.col a.v.vis = View.mk b.v.rows b.v.cols b.v.cells b.v.row b.v.col b.v.vis) ∧ a.title.toList = b.title.toList ∧ (a.clip.toList = b.clip.toList ∧ a.clips = b.clips) ∧ a.bells = b.bells) = true; simp [*] <;> simp_all)
      · refine AB.gn 20 rfl (by decide +kernel) rfl rfl rfl rfl rfl ?_
        refine AB.gn 21 rfl (by decide +kernel) rfl rfl rfl rfl rfl ?_
        refine AB.gn 22 rfl (by decide +kernel) rfl rfl rfl rfl rfl ?_
        refine AB.gn 23 rfl (by decide +kernel) rfl rfl rfl rfl rfl ?_
        refine AB.gn 24 rfl (by decide +kernel) rfl rfl rfl rfl rfl ?_
        refine AB.u 25 rfl (by decide +kernel) (Dtu.pickF (lk rfl) (lk rfl)) rfl ?_
        refine AB.u 26 rfl (by decide +kernel) (Dtu.asg (lk rfl)) rfl ?_
        refine AB.done (by decide +kernel) ?_
        refine Then.next ?_
        refine Body.ret ?_
        (refine ⟨.inr rfl, _, pk [] rfl, bool_eq ?_, rfl⟩; show _ ↔ decide ((View.mk a.v.rows a.v.cols a.v.cells a.v.row a.v.col a.v.vis = View.mk b.v.rows b.v.cols b.v.cells b.v.row b.v.col b.v.vis) ∧ a.title.toList = b.title.toList ∧ (a.clip.toList = b.clip.toList ∧ a.clips = b.clips) ∧ a.bells = b.bells) = true; simp [*] <;> simp_all)
    · refine AB.gn 13 rfl (by decide +kernel) rfl rfl rfl rfl rfl ?_
      refine AB.gn 14 rfl (by decide +kernel) rfl rfl rfl rfl rfl ?_
      refine AB.gn 15 rfl (by decide +kernel) rfl rfl rfl rfl rfl ?_
      refine AB.gn 16 rfl (by decide +kernel) rfl rfl rfl rfl rfl ?_
      refine AB.gn 17 rfl (by decide +kernel) rfl rfl rfl rfl rfl ?_
      refine AB.u 18 rfl (by decide +kernel) (Dtu.pickF (lk rfl) (lk rfl)) rfl ?_
      refine AB.u 19 rfl (by decide +kernel) (Dtu.mv (lk rfl)) rfl ?_
      refine AB.gn 20 rfl (by decide +kernel) rfl rfl rfl rfl rfl ?_
      refine AB.gn 21 rfl (by decide +kernel) rfl rfl rfl rfl rfl ?_
      refine AB.gn 22 rfl (by decide +kernel) rfl rfl rfl rfl rfl ?_
      refine AB.gn 23 rfl (by decide +kernel) rfl rfl rfl rfl rfl ?_
      refine AB.gn 24 rfl (by decide +kernel) rfl rfl rfl rfl rfl ?_
      refine AB.u 25 rfl (by decide +kernel) (Dtu.pickF (lk rfl) (lk rfl)) rfl ?_
      refine AB.u 26 rfl (by decide +kernel) (Dtu.asg (lk rfl)) rfl ?_
      refine AB.done (by decide +kernel) ?_
      refine Then.next ?_
      refine Body.ret ?_
      (refine ⟨.inr rfl, _, pk [] rfl, bool_eq ?_, rfl⟩; show _ ↔ decide ((View.mk a.v.rows a.v.cols a.v.cells a.v.row a.v.col a.v.vis = View.mk b.v.rows b.v.cols b.v.cells b.v.row b.v.col b.v.vis) ∧ a.title.toList = b.title.toList ∧ (a.clip.toList = b.clip.toList ∧ a.clips = b.clips) ∧ a.bells = b.bells) = true; simp [*] <;> simp_all)
  · refine AB.gn 6 rfl (by decide +kernel) rfl rfl rfl rfl rfl ?_
    refine AB.gn 7 rfl (by decide +kernel) rfl rfl rfl rfl rfl ?_
    refine AB.gn 8 rfl (by decide +kernel) rfl rfl rfl rfl rfl ?_
    refine AB.gn 9 rfl (by decide +kernel) rfl rfl rfl rfl rfl ?_
    refine AB.gn 10 rfl (by decide +kernel) rfl rfl rfl rfl rfl ?_
    refine AB.u 11 rfl (by decide +kernel) (Dtu.pickF (lk rfl) (lk rfl)) rfl ?_
    refine AB.u 12 rfl (by decide +kernel) (Dtu.mv (lk rfl)) rfl ?_
    refine AB.gn 13 rfl (by decide +kernel) rfl rfl rfl rfl rfl ?_
    refine AB.gn 14 rfl (by decide +kernel) rfl rfl rfl rfl rfl ?_
    refine AB.gn 15 rfl (by decide +kernel) rfl rfl rfl rfl rfl ?_
    refine AB.gn 16 rfl (by decide +kernel) rfl rfl rfl rfl rfl ?_
    refine AB.gn 17 rfl (by decide +kernel) rfl rfl rfl rfl rfl ?_
    refine AB.u 18 rfl (by decide +kernel) (Dtu.pickF (lk rfl) (lk rfl)) rfl ?_
    refine AB.u 19 rfl (by decide +kernel) (Dtu.mv (lk rfl)) rfl ?_
    refine AB.gn 20 rfl (by decide +kernel) rfl rfl rfl rfl rfl ?_
    refine AB.gn 21 rfl (by decide +kernel) rfl rfl rfl rfl rfl ?_
    refine AB.gn 22 rfl (by decide +kernel) rfl rfl rfl rfl rfl ?_
    refine AB.gn 23 rfl (by decide +kernel) rfl rfl rfl rfl rfl ?_
    refine AB.gn 24 rfl (by decide +kernel) rfl rfl rfl rfl rfl ?_
    refine AB.u 25 rfl (by decide +kernel) (Dtu.pickF (lk rfl) (lk rfl)) rfl ?_
    refine AB.u 26 rfl (by decide +kernel) (Dtu.asg (lk rfl)) rfl ?_
    refine AB.done (by decide +kernel) ?_
    refine Then.next ?_
    refine Body.ret ?_
    (refine ⟨.inr rfl, _, pk [] rfl, bool_eq ?_, rfl⟩; show _ ↔ decide ((View.mk a.v.rows a.v.cols a.v.cells a.v.row a.v.col a.v.vis = View.mk b.v.rows b.v.cols b.v.cells b.v.row b.v.col b.v.vis) ∧ a.title.toList = b.title.toList ∧ (a.clip.toList = b.clip.toList ∧ a.clips = b.clips) ∧ a.bells = b.bells) = true; simp [*] <;> simp_all)
end Go.Proofs.Ytijjjdljdjnbaaa
end
section
/- States: great ones; the first one. Fields' bytes. -/
namespace Go.Proofs.Ytijjjdljdjnbaaa
set_option maxRecDepth 100000
set_option linter.unusedVariables false
set_option linter.unusedSimpArgs false
open Go.Sx

def Stt.great (x : Stt) : Prop := 600 < x.v.cells.length ∨ 200 < x.title.size ∨ 500 < x.clip.size
instance (x : Stt) : Decidable x.great := by unfold Stt.great; infer_instance
theorem great_ok (E : Env) (x : Stt) (s : Value) (h : x.v.has E [] s) : Does Try.prog 38 #[x.val s] E [] fun r H' => r = .bool (decide x.great) ∧ H' = [] := by
  unfold View.has at h
  refine Does.pure h.isSl fun hs => ?_
  obtain ⟨sa, sm, sc, rfl⟩ := hs
  refine Does.go (args := [x.val _]) _ _ Try.func38 rfl Try.ntmps38 rfl rfl ?_
  refine Body.seq ?_
  refine Body.region ?_
  refine Ops.s (Stp.box (lk rfl) rfl (fun b1 => ?_)) rfl
  refine Ops.u (Dtu.asg (lk rfl)) rfl ?_
  refine Ops.nil ?_
  refine Then.next ?_
  refine Body.seq ?_
  refine Body.region ?_
  refine Ops.u (Dtu.fld fa77_0 (lk rfl)) rfl ?_
  refine Ops.u (Dtu.fld fa24_2 (lk rfl)) rfl ?_
  refine Ops.d (Det.ld Try.isAgg22 (lk rfl) (Rd.ow 0 rfl rfl)) rfl ?_
  refine Ops.u (Dtu.lenS Try.underlying22 (Sl.up h) (lk rfl)) rfl ?_
  refine Ops.u (Dtu.gtr (lk rfl) (lk rfl)) rfl ?_
  refine Ops.u (Dtu.mv (lk rfl)) rfl ?_
  refine Ops.decP 8 rfl (fun c8 => ?_) (fun c8 => ?_)
  · refine Ops.gn rfl rfl rfl rfl rfl ?_
    refine Ops.gn rfl rfl rfl rfl rfl ?_
    refine Ops.gn rfl rfl rfl rfl rfl ?_
    refine Ops.gn rfl rfl rfl rfl rfl ?_
    refine Ops.u (Dtu.pickT (lk rfl) (lk rfl)) rfl ?_
    refine Ops.u (Dtu.mv (lk rfl)) rfl ?_
    refine Ops.gn rfl rfl rfl rfl rfl ?_
    refine Ops.gn rfl rfl rfl rfl rfl ?_
    refine Ops.gn rfl rfl rfl rfl rfl ?_
    refine Ops.gn rfl rfl rfl rfl rfl ?_
    refine Ops.u (Dtu.pickT (lk rfl) (lk rfl)) rfl ?_
    refine Ops.u (Dtu.asg (lk rfl)) rfl ?_
    refine Ops.nil ?_
    refine Then.next ?_
    refine Body.ret ?_
    (refine ⟨.inr rfl, _, pk [] rfl, bool_eq ?_, rfl⟩; first | exact ⟨fun _ => decide_eq_true (show _ ∨ _ ∨ _ by omega), fun _ => rfl⟩ | exact ⟨fun h => decide_eq_true (show _ ∨ _ ∨ _ by have := of_decide_eq_true h; omega), fun h => decide_eq_true (by have h2 : _ ∨ _ ∨ _ := of_decide_eq_true h; omega)⟩)
  · refine Ops.gu rfl rfl rfl (Dtu.fld fa77_1 (lk rfl)) rfl ?_
    refine Ops.gd rfl rfl rfl (Det.ld Try.isAgg9 (lk rfl) (Rd.ow 0 rfl rfl)) rfl ?_
    refine Ops.gu rfl rfl rfl (Dtu.lenStr Try.underlying9 (lk rfl)) rfl ?_
    refine Ops.gu rfl rfl rfl (Dtu.gtr (lk rfl) (lk rfl)) rfl ?_
    refine Ops.u (Dtu.pickF (lk rfl) (lk rfl)) rfl ?_
    refine Ops.u (Dtu.mv (lk rfl)) rfl ?_
    refine Ops.decP 14 rfl (fun c14 => ?_) (fun c14 => ?_)
    · refine Ops.gn rfl rfl rfl rfl rfl ?_
      refine Ops.gn rfl rfl rfl rfl rfl ?_
      refine Ops.gn rfl rfl rfl rfl rfl ?_
      refine Ops.gn rfl rfl rfl rfl rfl ?_
      refine Ops.u (Dtu.pickT (lk rfl) (lk rfl)) rfl ?_
      refine Ops.u (Dtu.asg (lk rfl)) rfl ?_
      refine Ops.nil ?_
      refine Then.next ?_
      refine Body.ret ?_
      (refine ⟨.inr rfl, _, pk [] rfl, bool_eq ?_, rfl⟩; first | exact ⟨fun _ => decide_eq_true (show _ ∨ _ ∨ _ by omega), fun _ => rfl⟩ | exact ⟨fun h => decide_eq_true (show _ ∨ _ ∨ _ by have := of_decide_eq_true h; omega), fun h => decide_eq_true (by have h2 : _ ∨ _ ∨ _ := of_decide_eq_true h; omega)⟩)
    · refine Ops.gu rfl rfl rfl (Dtu.fld fa77_2 (lk rfl)) rfl ?_
      refine Ops.gd rfl rfl rfl (Det.ld Try.isAgg9 (lk rfl) (Rd.ow 0 rfl rfl)) rfl ?_
      refine Ops.gu rfl rfl rfl (Dtu.lenStr Try.underlying9 (lk rfl)) rfl ?_
      refine Ops.gu rfl rfl rfl (Dtu.gtr (lk rfl) (lk rfl)) rfl ?_
      refine Ops.u (Dtu.pickF (lk rfl) (lk rfl)) rfl ?_
      refine Ops.u (Dtu.asg (lk rfl)) rfl ?_
      refine Ops.nil ?_
      refine Then.next ?_
      refine Body.ret ?_
      (refine ⟨.inr rfl, _, pk [] rfl, bool_eq ?_, rfl⟩; first | exact ⟨fun _ => decide_eq_true (show _ ∨ _ ∨ _ by omega), fun _ => rfl⟩ | exact ⟨fun h => decide_eq_true (show _ ∨ _ ∨ _ by have := of_decide_eq_true h; omega), fun h => decide_eq_true (by have h2 : _ ∨ _ ∨ _ := of_decide_eq_true h; omega)⟩)
def Stt.first : Stt := ⟨View.first, ⟨#[]⟩, ⟨#[]⟩, 0, 0⟩
theorem sfirst_ok (E : Env) : Does Try.prog 50 #[] E [] fun r H' => ∃ (a : Option Addr) (m c : Nat), r = Stt.first.val (.slice a m c) ∧ H' = [osl 55 4 (.slice a m c) 1 (View.first.cells.flatMap Cell.enc)] := by
  refine Does.go (args := []) _ _ Try.func50 rfl Try.ntmps50 rfl rfl ?_
  refine Body.seq ?_
  refine Body.region ?_
  refine Ops.s (Stp.alloc ty77 (fun b0 => ?_)) rfl
  refine Ops.nil ?_
  refine Then.next ?_
  refine Body.seq ?_
  refine Body.region ?_
  refine Ops.s (Stp.call rfl Try.call57 (lks rfl) (fun E' le hat => first_ok E') ?_) rfl
  rintro _ _ ⟨s1, rfl, rfl⟩
  refine Ops.u (Dtu.build ty77 pl77 (lkp rfl) rfl rfl) rfl ?_
  refine Ops.pure (Sl.isSl (Sl.osl 0 rfl)) fun h1 => ?_
  obtain ⟨z1, z2, z3, rfl⟩ := h1
  refine Ops.e (Stp.store 1 Try.sizeOf77 (lk rfl) (lk rfl) rfl rfl rfl rfl rfl rfl rfl ?_)
  refine Ops.nil ?_
  refine Then.next ?_
  refine Body.ret ?_
  exact ⟨.inr rfl, _, Loads.agg Try.isAgg77 Try.sizeOf77 (Rds.ow (m := 10) 1 rfl rfl) rfl, _, pk [0] rfl, z1, z2, z3, rfl, rfl⟩
structure Fld where
  tag : Int
  a : Option Addr
  m : Nat
  c : Nat
  data : List Int
  deriving Inhabited
def Fld.enc (f : Fld) : List Value := [.int .u8 f.tag, .slice f.a f.m f.c]
def Fld.has (f : Fld) (E : Env) (H : List HProp) : Prop := Sl E H 1 (.slice f.a f.m f.c) f.data.length (f.data.map (.int .u8))
/-- a field's bytes -/
def fldB (t : Int) (d : List Int) : List Int := [t] ++ (putL (d.length : Int) ++ d)
theorem putFields_ok (E : Env) (s : Value) (fs : List Fld) (h : Sl E [] 2 s fs.length (fs.flatMap Fld.enc)) (hd : ∀ f ∈ fs, f.has E []) (hn : fs.length ≤ 128) (hl : ∀ f ∈ fs, f.data.length ≤ 16384) : Does Try.prog 86 #[s] E [] fun r H' => ∃ s', r = .tuple #[s', .int .i64 0] ∧ H' = [osl 5 1 s' (fs.flatMap fun f => fldB f.tag f.data).length ((fs.flatMap fun f => fldB f.tag f.data).map (.int .u8))] := by
  refine Does.go (args := [s]) _ _ Try.func86 rfl Try.ntmps86 rfl rfl ?_
  refine Body.seq ?_
  refine Body.region ?_
  refine Ops.u (Dtu.asg (lk rfl)) rfl ?_
  refine Ops.u (Dtu.asg (lk rfl)) rfl ?_
  refine Ops.nil ?_
  refine Then.next ?_
  refine Body.seq ?_
  refine Body.seq ?_
  refine Body.region ?_
  refine Ops.u (Dtu.mv (lk rfl)) rfl ?_
  refine Ops.u (Dtu.lenS Try.underlying138 (Sl.up h) (lk rfl)) rfl ?_
  refine Ops.u (Dtu.gtr (lk rfl) (lk rfl)) rfl ?_
  refine Ops.nil ?_
  refine Then.next ?_
  refine Body.condP (lk rfl) (fun hy => absurd hy (by first | omega | assumption | decide)) (fun _ => ?_)
  refine Body.skip ?_
  refine Then.next ?_
  refine Body.seq ?_
  refine Body.region ?_
  refine Ops.u (Dtu.asg (lk rfl)) rfl ?_
  refine Ops.nil ?_
  refine Then.next ?_
  refine Body.seq ?_
  refine Body.seq ?_
  refine Body.region ?_
  refine Ops.u (Dtu.mv (lk rfl)) rfl ?_
  refine Ops.u (Dtu.lenS Try.underlying138 (Sl.up h) (lk rfl)) rfl ?_
  refine Ops.u (Dtu.mv (lk rfl)) rfl ?_
  refine Ops.nil ?_
  refine Then.next ?_
  refine Body.block ?_
  refine Body.conseq (H' := [osl 5 1 (.slice none 0 0) 0 []]) (fun w s => osl_nil s) ?_
  refine Body.loopF (γ := Nat × Value × List Int) rfl (fun g => [(14, .int .i64 g.1), (4, g.2.1)]) (fun g => [osl 5 1 g.2.1 g.2.2.length (g.2.2.map (.int .u8))]) (fun g => g.1 ≤ fs.length ∧ g.2.2 = (fs.take g.1).flatMap (fun f => fldB f.tag f.data) ∧ g.2.2.length ≤ 16393 * g.1) (fun g => fs.length - g.1) (0, .slice none 0 0, []) ⟨by simp, by simp, by simp⟩ ⟨rfl, rfl, trivial⟩ rfl ?_
  rintro ⟨i, O, bs⟩ u ⟨hi, he, hb⟩
  dsimp only at hi he hb ⊢
  refine Body.seq ?_
  refine Body.region ?_
  refine Ops.u (Dtu.lss (lk rfl) (lk rfl)) rfl ?_
  refine Ops.nil ?_
  refine Then.next ?_
  refine Body.seq ?_
  refine Body.condP (lk rfl) (fun c15 => ?_) (fun c15 => ?_)
  · have hfm : fs[i]! ∈ fs := by rw [getElem!_pos fs i (by omega)]; exact List.getElem_mem _
    have hdi : Sl E [] 1 (.slice fs[i]!.a fs[i]!.m fs[i]!.c) fs[i]!.data.length (fs[i]!.data.map (.int .u8)) := hd _ hfm
    have hli := hl _ hfm
    have hz := sizeS_le (fs[i]!.data.length : Int)
    refine Body.skip ?_
    refine Then.next ?_
    refine Body.seq ?_
    refine Body.block ?_
    refine Body.seq ?_
    refine Body.region ?_
    refine Ops.u (Dtu.ix (i := (i)) Try.underlying138 Try.sizeOf137 (Sl.up h) (lk rfl) (lk rfl) (by omega) (by omega)) rfl ?_
    refine Ops.d (Det.lda Try.isAgg137 Try.sizeOf137 (lk rfl) (Rds.sl (Sl.up h) (gf (sz := 2) (fun _ => rfl) (by omega))) rfl) rfl ?_
    refine Ops.s (Stp.alloc ty137 (fun b6 => ?_)) rfl
    refine Ops.e (Stp.store 0 Try.sizeOf137 (lk rfl) (lk rfl) rfl rfl rfl rfl rfl rfl rfl ?_)
    refine Ops.nil ?_
    refine Then.next ?_
    refine Body.seq ?_
    refine Body.seq ?_
    refine Body.region ?_
    refine Ops.u (Dtu.fld fa137_1 (lk rfl)) rfl ?_
    refine Ops.d (Det.ld Try.isAgg32 (lk rfl) (Rd.ow 0 rfl rfl)) rfl ?_
    refine Ops.u (Dtu.lenS Try.underlying32 (Sl.up hdi) (lk rfl)) rfl ?_
    refine Ops.u (Dtu.gtr (lk rfl) (lk rfl)) rfl ?_
    refine Ops.nil ?_
    refine Then.next ?_
    refine Body.condP (lk rfl) (fun hy => absurd hy (by first | omega | assumption | decide)) (fun _ => ?_)
    refine Body.skip ?_
    refine Then.next ?_
    refine Body.seq ?_
    refine Body.region ?_
    refine Ops.u (Dtu.fld fa137_1 (lk rfl)) rfl ?_
    refine Ops.d (Det.ld Try.isAgg32 (lk rfl) (Rd.ow 0 rfl rfl)) rfl ?_
    refine Ops.u (Dtu.lenS Try.underlying32 (Sl.up hdi) (lk rfl)) rfl ?_
    refine Ops.u (Dtu.cvt Try.underlying3 Try.underlying75 (lk rfl) (wu64 (by omega) (by omega))) rfl ?_
    refine Ops.s (Stp.call rfl Try.call73 (lks rfl) (fun E' le hat => put_fine E' _ (by omega) (by omega)) ?_) rfl
    rintro _ _ ⟨s27, hz27, rfl, rfl⟩
    refine Ops.u (Dtu.mv (lk rfl)) rfl ?_
    refine Ops.u (Dtu.ext (lk rfl) rfl) rfl ?_
    refine Ops.u (Dtu.ext (lk rfl) rfl) rfl ?_
    refine Ops.u (Dtu.asg (lk rfl)) rfl ?_
    refine Ops.u (Dtu.asg (lk rfl)) rfl ?_
    refine Ops.nil ?_
    refine Then.next ?_
    refine Body.seq ?_
    refine Body.region ?_
    refine Ops.u (Dtu.mv (lk rfl)) rfl ?_
    refine Ops.u (Dtu.fld fa137_0 (lk rfl)) rfl ?_
    refine Ops.d (Det.ld Try.isAgg5 (lk rfl) (Rd.ow 1 rfl rfl)) rfl ?_
    refine Ops.s (Stp.buildSliceO Try.underlying32 ty5 (by decide) (by decide) (lkp rfl) rfl rfl rfl (by decide) (fun v33 => ?_)) rfl
    refine Ops.s (Stp.append 3 Try.underlying32 ty5 rfl rfl (lk rfl) (lk rfl) (Sl.osl 0 rfl) (by first | rfl | exact all_map (fun _ => rfl) _ | exact all_flat (fun _ => rfl) _) (by omega) (by omega) (fun v34 => ?_)) rfl
    refine Ops.u (Dtu.asg (lk rfl)) rfl ?_
    refine Ops.nil ?_
    refine Then.next ?_
    refine Body.seq ?_
    refine Body.region ?_
    refine Ops.u (Dtu.mv (lk rfl)) rfl ?_
    refine Ops.u (Dtu.mv (lk rfl)) rfl ?_
    refine Ops.s (Stp.append 3 Try.underlying32 ty5 rfl rfl (lk rfl) (lk rfl) (Sl.osl 1 rfl) (by first | rfl | exact all_map (fun _ => rfl) _ | exact all_flat (fun _ => rfl) _) (by omega) (by omega) (fun v37 => ?_)) rfl
    refine Ops.u (Dtu.asg (lk rfl)) rfl ?_
    refine Ops.nil ?_
    refine Then.next ?_
    refine Body.region ?_
    refine Ops.u (Dtu.mv (lk rfl)) rfl ?_
    refine Ops.u (Dtu.fld fa137_1 (lk rfl)) rfl ?_
    refine Ops.d (Det.ld Try.isAgg32 (lk rfl) (Rd.ow 2 rfl rfl)) rfl ?_
    refine Ops.s (Stp.append 3 Try.underlying32 ty5 rfl rfl (lk rfl) (lk rfl) (Sl.up hdi) (by first | rfl | exact all_map (fun _ => rfl) _ | exact all_flat (fun _ => rfl) _) (by omega) (by omega) (fun v41 => ?_)) rfl
    refine Ops.u (Dtu.asg (lk rfl)) rfl ?_
    refine Ops.nil ?_
    refine Blk.norm ?_
    refine Then.next ?_
    refine Body.region ?_
    refine Ops.u (Dtu.add (lk rfl) (lk rfl) (w64 (by omega) (by omega))) rfl ?_
    refine Ops.u (Dtu.mv (lk rfl)) rfl ?_
    refine Ops.nil ?_
    have e : (fs.take (i + 1)).flatMap (fun f => fldB f.tag f.data) = (fs.take i).flatMap (fun f => fldB f.tag f.data) ++ fldB fs[i]!.tag fs[i]!.data := by rw [take_snocD (by omega), List.flatMap_append]; simp
    refine Round.goK [3] (i + 1, v41, bs ++ fldB fs[i]!.tag fs[i]!.data) rfl rfl rfl ⟨int_eq (by simp), rfl, trivial⟩ rfl ?_ ⟨by dsimp only; omega, ?_, ?_⟩ (by dsimp only; omega)
    · simp [fldB, putL_len, Nat.add_assoc, Nat.add_comm, Nat.add_left_comm]
    · dsimp only
      rw [e, he]
    · simp only [fldB, List.length_append, putL_len, List.length_cons, List.length_nil]; omega
  · obtain rfl : i = fs.length := by omega
    rw [List.take_length] at he
    subst he
    refine Body.exit ?_
    refine Then.exit ?_
    refine Round.exit ?_
    refine Blk.here ?_
    refine Then.next ?_
    refine Body.seq ?_
    refine Body.region ?_
    refine Ops.u (Dtu.mv (lk rfl)) rfl ?_
    refine Ops.u (Dtu.asg (lk rfl)) rfl ?_
    refine Ops.u (Dtu.asg (lk rfl)) rfl ?_
    refine Ops.nil ?_
    refine Then.next ?_
    refine Body.ret ?_
    exact ⟨.inr rfl, _, pk [0] rfl, O, rfl, rfl⟩
end Go.Proofs.Ytijjjdljdjnbaaa
end
section
/- Changes: Diff. -/
namespace Go.Proofs.Ytijjjdljdjnbaaa
set_option maxRecDepth 100000
set_option linter.unusedVariables false
set_option linter.unusedSimpArgs false
open Go.Sx

theorem add_ok (E : Env) (is : Bool) (f : Fld) (b : Nat) (p : Option Addr) (m k : Nat) (fs : List Fld) (hn : fs.length ≤ 100) : Does Try.prog 84 #[.bool is, .int .u8 f.tag, .slice f.a f.m f.c, .pointer (some ⟨b, 0, none⟩)] E [own b [.slice p m k] 138, osl 137 2 (.slice p m k) fs.length (fs.flatMap Fld.enc)] fun r H' => ∃ (z1 : Option Addr) (z2 z3 : Nat), H' = [own b [.slice z1 z2 z3] 138, osl 137 2 (.slice z1 z2 z3) (fs ++ if is then [f] else []).length ((fs ++ if is then [f] else []).flatMap Fld.enc)] := by
  refine Does.go (args := [.bool is, .int .u8 f.tag, .slice f.a f.m f.c, .pointer (some ⟨b, 0, none⟩)]) _ _ Try.func84 rfl Try.ntmps84 rfl rfl ?_
  cases is with
  | true =>
    refine Body.seq ?_
    refine Body.region ?_
    refine Ops.u (Dtu.mv (lk rfl)) rfl ?_
    refine Ops.nil ?_
    refine Then.next ?_
    refine Body.condT (lk rfl) ?_
    refine Body.region ?_
    refine Ops.d (Det.ld Try.isAgg138 (lk rfl) (Rd.ow 0 rfl rfl)) rfl ?_
    refine Ops.u (Dtu.mv (lk rfl)) rfl ?_
    refine Ops.u (Dtu.mv (lk rfl)) rfl ?_
    refine Ops.u (Dtu.build ty137 pl137 (lkp rfl) rfl rfl) rfl ?_
    refine Ops.s (Stp.buildSliceO Try.underlying138 ty137 (by decide) (by decide) (lkp rfl) rfl rfl rfl (by decide) (fun v12 => ?_)) rfl
    refine Ops.s (Stp.append 2 Try.underlying138 ty137 rfl rfl (lk rfl) (lk rfl) (Sl.osl 0 rfl) (by first | rfl | exact all_map (fun _ => rfl) _ | exact all_flat (fun _ => rfl) _) (by omega) (by omega) (fun v13 => ?_)) rfl
    refine Ops.pure (Sl.isSl (Sl.osl 2 rfl)) fun h13 => ?_
    obtain ⟨z1, z2, z3, rfl⟩ := h13
    refine Ops.e (Stp.store 1 Try.sizeOf138 (lk rfl) (lk rfl) rfl rfl rfl rfl rfl rfl rfl ?_)
    refine Ops.nil ?_
    exact ⟨.inl rfl, _, pk [1, 1] rfl, z1, z2, z3, by simp [Fld.enc]⟩
  | false =>
    refine Body.seq ?_
    refine Body.region ?_
    refine Ops.u (Dtu.mv (lk rfl)) rfl ?_
    refine Ops.nil ?_
    refine Then.next ?_
    refine Body.condF (lk rfl) ?_
    refine Body.skip ?_
    exact ⟨.inl rfl, _, pk [0, 0] rfl, p, m, k, by simp⟩
/-- the fields of a change -/
def sdifL (a b : Stt) : List (Int × List Int) := [(1, difB a.v b.v)] ++ (if a.title.toList ≠ b.title.toList then [(2, numsOf b.title)] else []) ++ (if ¬ (a.clip.toList = b.clip.toList ∧ a.clips = b.clips) then [(3, putL b.clips ++ numsOf b.clip)] else []) ++ (if a.bells ≠ b.bells then [(4, putL b.bells)] else [])
def sdifB (a b : Stt) : List Int := (sdifL a b).flatMap fun x => fldB x.1 x.2
theorem sdiff_no (E : Env) (a b : Stt) (s t : Value) (ha : a.v.has E [] s) (hb : b.v.has E [] t) (h : (a.ok && b.ok) = false) : Does Try.prog 41 #[a.val s, b.val t] E [] fun r H' => r = .tuple #[.slice none 0 0, .int .i64 3] ∧ H' = [] := by
  unfold View.has at ha hb
  refine Does.pure ha.isSl fun hs => ?_
  obtain ⟨sa, sm, sc, rfl⟩ := hs
  refine Does.pure hb.isSl fun hs => ?_
  obtain ⟨ta, tm, tc, rfl⟩ := hs
  refine Does.go (args := [a.val _, b.val _]) _ _ Try.func41 rfl Try.ntmps41 rfl rfl ?_
  cases hk : a.ok with
  | false =>
    refine Body.seq ?_
    refine Body.region ?_
    refine Ops.s (Stp.box (lk rfl) rfl (fun b2 => ?_)) rfl
    refine Ops.s (Stp.box (lk rfl) rfl (fun b3 => ?_)) rfl
    refine Ops.u (Dtu.asg (lk rfl)) rfl ?_
    refine Ops.u (Dtu.asg (lk rfl)) rfl ?_
    refine Ops.nil ?_
    refine Then.next ?_
    refine Body.seq ?_
    refine Body.seq ?_
    refine Body.region ?_
    refine Ops.d (Det.lda Try.isAgg77 Try.sizeOf77 (lk rfl) (Rds.ow (m := 10) 1 rfl rfl) rfl) rfl ?_
    refine Ops.s (Stp.call rfl Try.call42 (lks rfl) (fun E' le hat => sright_ok E' ⟨⟨_, _, _, _, _, _⟩, _, _, _, _⟩ _ (Sl.mono (by assumption) le)) ?_) rfl
    rintro _ _ ⟨rfl, rfl⟩
    refine Ops.u (Dtu.not (lk rfl)) rfl ?_
    refine Ops.u (Dtu.mv (lk rfl)) rfl ?_
    refine Ops.dec 17 rfl (fun _ => ?_) (fun hn => absurd hn (by simp [hk]))
    refine Ops.gn rfl rfl rfl rfl rfl ?_
    refine Ops.gn rfl rfl rfl rfl rfl ?_
    refine Ops.gn rfl rfl rfl rfl rfl ?_
    refine Ops.u (Dtu.pickT (lk rfl) (lk rfl)) rfl ?_
    refine Ops.nil ?_
    refine Then.next ?_
    refine Body.condT (lk rfl) ?_
    refine Body.seq ?_
    refine Body.region ?_
    refine Ops.u (Dtu.asg (lk rfl)) rfl ?_
    refine Ops.u (Dtu.asg (lk rfl)) rfl ?_
    refine Ops.nil ?_
    refine Then.next ?_
    refine Body.ret ?_
    refine Then.ret ?_
    exact ⟨.inr rfl, _, pk [] rfl, rfl, rfl⟩
  | true =>
    have hk2 : b.ok = false := by simpa [hk] using h
    refine Body.seq ?_
    refine Body.region ?_
    refine Ops.s (Stp.box (lk rfl) rfl (fun b2 => ?_)) rfl
    refine Ops.s (Stp.box (lk rfl) rfl (fun b3 => ?_)) rfl
    refine Ops.u (Dtu.asg (lk rfl)) rfl ?_
    refine Ops.u (Dtu.asg (lk rfl)) rfl ?_
    refine Ops.nil ?_
    refine Then.next ?_
    refine Body.seq ?_
    refine Body.seq ?_
    refine Body.region ?_
    refine Ops.d (Det.lda Try.isAgg77 Try.sizeOf77 (lk rfl) (Rds.ow (m := 10) 1 rfl rfl) rfl) rfl ?_
    refine Ops.s (Stp.call rfl Try.call42 (lks rfl) (fun E' le hat => sright_ok E' ⟨⟨_, _, _, _, _, _⟩, _, _, _, _⟩ _ (Sl.mono (by assumption) le)) ?_) rfl
    rintro _ _ ⟨rfl, rfl⟩
    refine Ops.u (Dtu.not (lk rfl)) rfl ?_
    refine Ops.u (Dtu.mv (lk rfl)) rfl ?_
    refine Ops.dec 17 rfl (fun hn => absurd hn (by simp [hk])) (fun _ => ?_)
    refine Ops.gd rfl rfl rfl (Det.lda Try.isAgg77 Try.sizeOf77 (lk rfl) (Rds.ow (m := 10) 0 rfl rfl) rfl) rfl ?_
    refine Ops.gs rfl rfl rfl (Stp.call rfl Try.call42 (lks rfl) (fun E' le hat => sright_ok E' ⟨⟨_, _, _, _, _, _⟩, _, _, _, _⟩ _ (Sl.mono (by assumption) le)) ?_) rfl
    rintro _ _ ⟨rfl, rfl⟩
    refine Ops.gu rfl rfl rfl (Dtu.not (lk rfl)) rfl ?_
    refine Ops.u (Dtu.pickF (lk rfl) (lk rfl)) rfl ?_
    refine Ops.nil ?_
    refine Then.next ?_
    refine Body.cond (lk rfl) (fun _ => ?_) (fun hn => absurd hn (by simp [hk2]))
    refine Body.seq ?_
    refine Body.region ?_
    refine Ops.u (Dtu.asg (lk rfl)) rfl ?_
    refine Ops.u (Dtu.asg (lk rfl)) rfl ?_
    refine Ops.nil ?_
    refine Then.next ?_
    refine Body.ret ?_
    refine Then.ret ?_
    exact ⟨.inr rfl, _, pk [] rfl, rfl, rfl⟩
theorem Stt.ok_fits {x : Stt} (h : x.ok = true) : x.v.ok = true ∧ x.title.size ≤ 64 ∧ x.clip.size ≤ 256 ∧ x.clips ≤ 4611686018427387903 ∧ x.bells ≤ 4611686018427387903 := by
  simp only [Stt.ok, Bool.and_eq_true, decide_eq_true_eq] at h
  exact ⟨h.1, h.2⟩
set_option maxHeartbeats 3200000 in
theorem sdiff_ok (E : Env) (a b : Stt) (s t : Value) (ha : a.v.has E [] s) (hb : b.v.has E [] t) (ka : a.ok = true) (kb : b.ok = true) (hc : 0 ≤ b.clips) (hbe : 0 ≤ b.bells) : Does Try.prog 41 #[a.val s, b.val t] E [] fun r H' => ∃ s', r = .tuple #[s', .int .i64 0] ∧ H' = [osl 5 1 s' (sdifB a b).length ((sdifB a b).map (.int .u8))] := by
  unfold View.has at ha hb
  obtain ⟨kav, _⟩ := Stt.ok_fits ka
  obtain ⟨kbv, t1, t2, t3, t4⟩ := Stt.ok_fits kb
  refine Does.pure ha.isSl fun hs => ?_
  obtain ⟨sa, sm, sc, rfl⟩ := hs
  refine Does.pure hb.isSl fun hs => ?_
  obtain ⟨ta, tm, tc, rfl⟩ := hs
  have hz1 := sizeS_le b.clips
  refine Does.go (args := [a.val _, b.val _]) _ _ Try.func41 rfl Try.ntmps41 rfl rfl ?_
  refine Body.seq ?_
  refine Body.region ?_
  refine Ops.s (Stp.box (lk rfl) rfl (fun b2 => ?_)) rfl
  refine Ops.s (Stp.box (lk rfl) rfl (fun b3 => ?_)) rfl
  refine Ops.u (Dtu.asg (lk rfl)) rfl ?_
  refine Ops.u (Dtu.asg (lk rfl)) rfl ?_
  refine Ops.nil ?_
  refine Then.next ?_
  refine Body.seq ?_
  refine Body.seq ?_
  refine Body.region ?_
  refine Ops.d (Det.lda Try.isAgg77 Try.sizeOf77 (lk rfl) (Rds.ow (m := 10) 1 rfl rfl) rfl) rfl ?_
  refine Ops.s (Stp.call rfl Try.call42 (lks rfl) (fun E' le hat => sright_ok E' ⟨⟨_, _, _, _, _, _⟩, _, _, _, _⟩ _ (Sl.mono (by assumption) le)) ?_) rfl
  rintro _ _ ⟨rfl, rfl⟩
  refine Ops.u (Dtu.not (lk rfl)) rfl ?_
  refine Ops.u (Dtu.mv (lk rfl)) rfl ?_
  refine Ops.dec 17 rfl (fun hn => absurd hn (by simp [ka])) (fun _ => ?_)
  refine Ops.gd rfl rfl rfl (Det.lda Try.isAgg77 Try.sizeOf77 (lk rfl) (Rds.ow (m := 10) 0 rfl rfl) rfl) rfl ?_
  refine Ops.gs rfl rfl rfl (Stp.call rfl Try.call42 (lks rfl) (fun E' le hat => sright_ok E' ⟨⟨_, _, _, _, _, _⟩, _, _, _, _⟩ _ (Sl.mono (by assumption) le)) ?_) rfl
  rintro _ _ ⟨rfl, rfl⟩
  refine Ops.gu rfl rfl rfl (Dtu.not (lk rfl)) rfl ?_
  refine Ops.u (Dtu.pickF (lk rfl) (lk rfl)) rfl ?_
  refine Ops.nil ?_
  refine Then.next ?_
  refine Body.cond (lk rfl) (fun hn => absurd hn (by simp [kb])) (fun _ => ?_)
  refine Body.skip ?_
  refine Then.next ?_
  refine Body.seq ?_
  refine Body.region ?_
  refine Ops.u (Dtu.fld fa77_0 (lk rfl)) rfl ?_
  refine Ops.d (Det.lda Try.isAgg24 Try.sizeOf24 (lk rfl) (Rds.ow (m := 6) 1 rfl rfl) rfl) rfl ?_
  refine Ops.u (Dtu.fld fa77_0 (lk rfl)) rfl ?_
  refine Ops.d (Det.lda Try.isAgg24 Try.sizeOf24 (lk rfl) (Rds.ow (m := 6) 0 rfl rfl) rfl) rfl ?_
  refine Ops.s (Stp.call rfl Try.call17 (lks rfl) (fun E' le hat => diff_ok E' ⟨_, _, _, _, _, _⟩ ⟨_, _, _, _, _, _⟩ _ _ (Sl.mono (by assumption) le) (Sl.mono (by assumption) le) (by assumption) (by assumption)) ?_) rfl
  rintro _ _ ⟨s27, rfl, rfl⟩
  refine Ops.u (Dtu.mv (lk rfl)) rfl ?_
  refine Ops.u (Dtu.ext (lk rfl) rfl) rfl ?_
  refine Ops.u (Dtu.ext (lk rfl) rfl) rfl ?_
  refine Ops.u (Dtu.asg (lk rfl)) rfl ?_
  refine Ops.u (Dtu.asg (lk rfl)) rfl ?_
  refine Ops.nil ?_
  refine Then.next ?_
  refine Body.seq ?_
  refine Body.seq ?_
  refine Body.region ?_
  refine Ops.u (Dtu.mv (lk rfl)) rfl ?_
  refine Ops.u (Dtu.neq (lk rfl) (lk rfl)) rfl ?_
  refine Ops.nil ?_
  refine Then.next ?_
  refine Body.condP (lk rfl) (fun hy => absurd hy (by first | omega | assumption | decide)) (fun _ => ?_)
  refine Body.skip ?_
  refine Then.next ?_
  refine Body.seq ?_
  refine Body.region ?_
  refine Ops.u (Dtu.mv (lk rfl)) rfl ?_
  refine Ops.pure (Sl.isSl (Sl.osl 0 rfl)) fun h27 => ?_
  obtain ⟨pa, pm, pc, rfl⟩ := h27
  refine Ops.u (Dtu.build ty137 pl137 (lkp rfl) rfl rfl) rfl ?_
  refine Ops.s (Stp.buildSliceO Try.underlying138 ty137 (by decide) (by decide) (lkp rfl) rfl rfl rfl (by decide) (fun v35 => ?_)) rfl
  refine Ops.s (Stp.alloc ty138 (fun b8 => ?_)) rfl
  refine Ops.pure (Sl.isSl (Sl.osl 1 rfl)) fun h35 => ?_
  obtain ⟨la, lm, lc, rfl⟩ := h35
  refine Ops.e (Stp.store 0 Try.sizeOf138 (lk rfl) (lk rfl) rfl rfl rfl rfl rfl rfl rfl ?_)
  refine Ops.nil ?_
  refine Then.next ?_
  refine Body.seq ?_
  refine Body.region ?_
  refine Ops.u (Dtu.mkfC rfl) rfl ?_
  refine Ops.u (Dtu.asg (lk rfl)) rfl ?_
  refine Ops.nil ?_
  refine Then.next ?_
  refine Body.seq ?_
  refine Body.region ?_
  refine Ops.u (Dtu.fld fa77_3 (lk rfl)) rfl ?_
  refine Ops.d (Det.ld Try.isAgg75 (lk rfl) (Rd.ow 3 rfl rfl)) rfl ?_
  refine Ops.s (Stp.call rfl Try.call73 (lks rfl) (fun E' le hat => put_fine E' _ (by omega) (by omega)) ?_) rfl
  rintro _ _ ⟨s40, hz40, rfl, rfl⟩
  refine Ops.u (Dtu.mv (lk rfl)) rfl ?_
  refine Ops.u (Dtu.ext (lk rfl) rfl) rfl ?_
  refine Ops.u (Dtu.ext (lk rfl) rfl) rfl ?_
  refine Ops.u (Dtu.asg (lk rfl)) rfl ?_
  refine Ops.u (Dtu.asg (lk rfl)) rfl ?_
  refine Ops.nil ?_
  refine Then.next ?_
  refine Body.seq ?_
  refine Body.region ?_
  refine Ops.u (Dtu.fld fa77_4 (lk rfl)) rfl ?_
  refine Ops.d (Det.ld Try.isAgg75 (lk rfl) (Rd.ow 4 rfl rfl)) rfl ?_
  refine Ops.s (Stp.call rfl Try.call73 (lks rfl) (fun E' le hat => put_fine E' _ (by omega) (by omega)) ?_) rfl
  rintro _ _ ⟨s46, hz46, rfl, rfl⟩
  refine Ops.u (Dtu.mv (lk rfl)) rfl ?_
  refine Ops.u (Dtu.ext (lk rfl) rfl) rfl ?_
  refine Ops.u (Dtu.ext (lk rfl) rfl) rfl ?_
  refine Ops.u (Dtu.asg (lk rfl)) rfl ?_
  refine Ops.u (Dtu.asg (lk rfl)) rfl ?_
  refine Ops.nil ?_
  refine Then.next ?_
  refine Body.seq ?_
  refine Body.region ?_
  refine Ops.u (Dtu.mv (lk rfl)) rfl ?_
  refine Ops.u (Dtu.fld fa77_1 (lk rfl)) rfl ?_
  refine Ops.d (Det.ld Try.isAgg9 (lk rfl) (Rd.ow 6 rfl rfl)) rfl ?_
  refine Ops.u (Dtu.fld fa77_1 (lk rfl)) rfl ?_
  refine Ops.d (Det.ld Try.isAgg9 (lk rfl) (Rd.ow 5 rfl rfl)) rfl ?_
  refine Ops.u (Dtu.neStr (lk rfl) (lk rfl)) rfl ?_
  refine Ops.u (Dtu.fld fa77_1 (lk rfl)) rfl ?_
  refine Ops.d (Det.ld Try.isAgg9 (lk rfl) (Rd.ow 5 rfl rfl)) rfl ?_
  refine Ops.s (Stp.cvtSB Try.underlying9 Try.underlying32 Try.underlying5 (lk rfl) (by omega) (fun v57 => ?_)) rfl
  refine Ops.pure (Sl.isSl (Sl.rsl 0 rfl)) fun h57 => ?_
  obtain ⟨ca, cm, cc, rfl⟩ := h57
  refine Ops.s (Stp.callClo [3, 3] rfl (cap := [.pointer (some ⟨b8, 0, none⟩)]) (lk rfl) Try.call84 (lks rfl) (fun E' le hat => add_ok E' (decide (a.title.toList ≠ b.title.toList)) ⟨2, ca, cm, cc, numsOf b.title⟩ b8 la lm lc [⟨1, pa, pm, pc, difB (View.mk a.v.rows a.v.cols a.v.cells a.v.row a.v.col a.v.vis) (View.mk b.v.rows b.v.cols b.v.cells b.v.row b.v.col b.v.vis)⟩] (by simp)) ?_) rfl
  rintro _ _ ⟨l1, l2, l3, rfl⟩
  generalize hF2 : ([⟨1, pa, pm, pc, difB (View.mk a.v.rows a.v.cols a.v.cells a.v.row a.v.col a.v.vis) (View.mk b.v.rows b.v.cols b.v.cells b.v.row b.v.col b.v.vis)⟩] ++ if decide (a.title.toList ≠ b.title.toList) = true then [⟨2, ca, cm, cc, numsOf b.title⟩] else [] : List Fld) = F2
  have hF2l : F2.length ≤ 2 := by rw [← hF2]; split <;> simp
  refine Ops.nil ?_
  refine Then.next ?_
  refine Body.seq ?_
  refine Body.draw mixed ?_
  refine AB.u 0 rfl (by decide +kernel) (Dtu.mv (lk rfl)) rfl ?_
  refine AB.d 1 rfl (by decide +kernel) rfl (Det.lda Try.isAgg77 Try.sizeOf77 (lk rfl) (Rds.ow (m := 10) 7 rfl rfl) rfl) rfl ?_
  refine AB.d 3 rfl (by decide +kernel) rfl (Det.lda Try.isAgg77 Try.sizeOf77 (lk rfl) (Rds.ow (m := 10) 6 rfl rfl) rfl) rfl ?_
  refine AB.u 6 rfl (by decide +kernel) (Dtu.mv (lk rfl)) rfl ?_
  refine AB.u 7 rfl (by decide +kernel) (Dtu.fld fa77_2 (lk rfl)) rfl ?_
  refine AB.d 8 rfl (by decide +kernel) rfl (Det.ld Try.isAgg9 (lk rfl) (Rd.ow 6 rfl rfl)) rfl ?_
  refine AB.s 2 rfl (by decide +kernel) (by decide +kernel) (Stp.call rfl Try.call85 (lks rfl) (fun E' le hat => clipping_ok E' ⟨⟨_, _, _, _, _, _⟩, _, _, _, _⟩ _ _ _) ?_) rfl
  rintro _ _ ⟨rfl, rfl⟩
  refine AB.s 4 rfl (by decide +kernel) (by decide +kernel) (Stp.call rfl Try.call85 (lks rfl) (fun E' le hat => clipping_ok E' ⟨⟨_, _, _, _, _, _⟩, _, _, _, _⟩ _ _ _) ?_) rfl
  rintro _ _ ⟨rfl, rfl⟩
  refine AB.u 5 rfl (by decide +kernel) (Dtu.neS eqGuard141 (eq141 _ _) (lk rfl) (lk rfl)) rfl ?_
  refine AB.s 9 rfl (by decide +kernel) (by decide +kernel) (Stp.appendStr 4 Try.underlying32 Try.underlying9 ty5 rfl rfl (lk rfl) (lk rfl) (by omega) (by omega) (fun v68 => ?_)) rfl
  refine AB.pure (Sl.isSl (Sl.osl 4 rfl)) fun h68 => ?_
  obtain ⟨da, dm, dc, rfl⟩ := h68
  refine AB.s 10 rfl (by decide +kernel) (by decide +kernel) (Stp.callClo [0, 0] rfl (cap := [.pointer (some ⟨b8, 0, none⟩)]) (lk rfl) Try.call84 (lks rfl) (fun E' le hat => add_ok E' (!((a.clip.toList == b.clip.toList) && ((a.clips == b.clips) && true))) ⟨3, da, dm, dc, putL b.clips ++ numsOf b.clip⟩ b8 l1 l2 l3 F2 (by omega)) ?_) rfl
  rintro _ _ ⟨m1, m2, m3, rfl⟩
  generalize hF3 : (F2 ++ if (!((a.clip.toList == b.clip.toList) && ((a.clips == b.clips) && true))) = true then [⟨3, da, dm, dc, putL b.clips ++ numsOf b.clip⟩] else [] : List Fld) = F3
  have hF3l : F3.length ≤ 3 := by rw [← hF3]; split <;> simp <;> omega
  refine AB.done (by decide +kernel) ?_
  refine Then.next ?_
  refine Body.seq ?_
  refine Body.region ?_
  refine Ops.u (Dtu.mv (lk rfl)) rfl ?_
  refine Ops.u (Dtu.fld fa77_4 (lk rfl)) rfl ?_
  refine Ops.d (Det.ld Try.isAgg75 (lk rfl) (Rd.ow 7 rfl rfl)) rfl ?_
  refine Ops.u (Dtu.fld fa77_4 (lk rfl)) rfl ?_
  refine Ops.d (Det.ld Try.isAgg75 (lk rfl) (Rd.ow 6 rfl rfl)) rfl ?_
  refine Ops.u (Dtu.neq (lk rfl) (lk rfl)) rfl ?_
  refine Ops.u (Dtu.mv (lk rfl)) rfl ?_
  refine Ops.pure (Sl.isSl (Sl.osl 3 rfl)) fun h46 => ?_
  obtain ⟨ea, em, ec, rfl⟩ := h46
  refine Ops.s (Stp.callClo [0, 0] rfl (cap := [.pointer (some ⟨b8, 0, none⟩)]) (lk rfl) Try.call84 (lks rfl) (fun E' le hat => add_ok E' (decide (a.bells ≠ b.bells)) ⟨4, ea, em, ec, putL b.bells⟩ b8 m1 m2 m3 F3 (by omega)) ?_) rfl
  rintro _ _ ⟨n1, n2, n3, rfl⟩
  generalize hF4 : (F3 ++ if decide (a.bells ≠ b.bells) = true then [⟨4, ea, em, ec, putL b.bells⟩] else [] : List Fld) = F4
  have hF4l : F4.length ≤ 4 := by rw [← hF4]; split <;> simp <;> omega
  have hmem : ∀ f ∈ F4, f = ⟨1, pa, pm, pc, difB (View.mk a.v.rows a.v.cols a.v.cells a.v.row a.v.col a.v.vis) (View.mk b.v.rows b.v.cols b.v.cells b.v.row b.v.col b.v.vis)⟩ ∨ f = ⟨2, ca, cm, cc, numsOf b.title⟩ ∨ f = ⟨3, da, dm, dc, putL b.clips ++ numsOf b.clip⟩ ∨ f = ⟨4, ea, em, ec, putL b.bells⟩ := by
    intro f hf
    rw [← hF4, ← hF3, ← hF2] at hf
    simp only [List.mem_append] at hf
    rcases hf with ((hf | hf) | hf) | hf
    · exact .inl (List.mem_singleton.1 hf)
    · split at hf
      · exact .inr (.inl (List.mem_singleton.1 hf))
      · cases hf
    · split at hf
      · exact .inr (.inr (.inl (List.mem_singleton.1 hf)))
      · cases hf
    · split at hf
      · exact .inr (.inr (.inr (List.mem_singleton.1 hf)))
      · cases hf
  have hdl : (difB (View.mk a.v.rows a.v.cols a.v.cells a.v.row a.v.col a.v.vis) (View.mk b.v.rows b.v.cols b.v.cells b.v.row b.v.col b.v.vis)).length ≤ 8192 := by
    have h1 : (difB (View.mk a.v.rows a.v.cols a.v.cells a.v.row a.v.col a.v.vis) (View.mk b.v.rows b.v.cols b.v.cells b.v.row b.v.col b.v.vis)).length ≤ 5 + 17 * others (difP (View.mk a.v.rows a.v.cols a.v.cells a.v.row a.v.col a.v.vis) (View.mk b.v.rows b.v.cols b.v.cells b.v.row b.v.col b.v.vis)) := (difB_len kav kbv).1
    have h2 : (difP (View.mk a.v.rows a.v.cols a.v.cells a.v.row a.v.col a.v.vis) (View.mk b.v.rows b.v.cols b.v.cells b.v.row b.v.col b.v.vis)).length = b.v.cells.length := difP_len kav kbv
    have h3 : b.v.cells.length ≤ 480 := (ok_480 kbv).2
    have h4 := others_le (difP (View.mk a.v.rows a.v.cols a.v.cells a.v.row a.v.col a.v.vis) (View.mk b.v.rows b.v.cols b.v.cells b.v.row b.v.col b.v.vis))
    omega
  have hdd : ∀ E', Sl E' [] 1 (.slice pa pm pc) (difB (View.mk a.v.rows a.v.cols a.v.cells a.v.row a.v.col a.v.vis) (View.mk b.v.rows b.v.cols b.v.cells b.v.row b.v.col b.v.vis)).length ((difB (View.mk a.v.rows a.v.cols a.v.cells a.v.row a.v.col a.v.vis) (View.mk b.v.rows b.v.cols b.v.cells b.v.row b.v.col b.v.vis)).map (.int .u8)) → Sl E' [] 1 (.slice ca cm cc) b.title.size ((numsOf b.title).map (.int .u8)) → Sl E' [] 1 (.slice da dm dc) (sizeS b.clips + b.clip.size) ((putL b.clips).map (.int .u8) ++ strCs b.clip) → Sl E' [] 1 (.slice ea em ec) (sizeS b.bells) ((putL b.bells).map (.int .u8)) → ∀ f ∈ F4, f.has E' [] := by
    intro E' s1 s2 s3 s4 f hf
    rcases hmem f hf with rfl | rfl | rfl | rfl
    · exact s1
    · simpa [Fld.has, numsOf_len] using s2
    · simpa [Fld.has, numsOf_len, putL_len, strCs] using s3
    · simpa [Fld.has, putL_len] using s4
  have hll : ∀ f ∈ F4, f.data.length ≤ 16384 := by
    intro f hf
    have hz2 := sizeS_le b.bells
    rcases hmem f hf with rfl | rfl | rfl | rfl
    · dsimp only; omega
    · simp only [numsOf_len]; omega
    · simp only [List.length_append, numsOf_len, putL_len]; omega
    · simp only [putL_len]; omega
  have hfin : F4.flatMap (fun f => fldB f.tag f.data) = sdifB a b := by
    rw [← hF4, ← hF3, ← hF2]
    simp only [sdifB, sdifL, List.flatMap_append]
    congr 1
    · congr 1
      · congr 1
        by_cases h : a.title.toList = b.title.toList <;> simp [h]
      · by_cases h : a.clip.toList = b.clip.toList <;> by_cases h2 : a.clips = b.clips <;> simp [h, h2]
    · by_cases h : a.bells = b.bells <;> simp [h]
  refine Ops.nil ?_
  refine Then.next ?_
  refine Body.seq ?_
  refine Body.region ?_
  refine Ops.d (Det.ld Try.isAgg138 (lk rfl) (Rd.ow 0 rfl rfl)) rfl ?_
  refine Ops.s (Stp.call rfl Try.call86 (lks rfl) (fun E' le hat => putFields_ok E' _ F4 (Sl.at (hat _ (.tail _ (.head _)))) (hdd E' (Sl.at (hat _ (.tail _ (.tail _ (.tail _ (.tail _ (.tail _ (.head _)))))))) (Sl.atR (hat _ (.tail _ (.tail _ (.head _))))) (Sl.at (hat _ (.tail _ (.tail _ (.tail _ (.tail _ (.head _))))))) (Sl.at (hat _ (.tail _ (.tail _ (.tail _ (.head _))))))) (by omega) hll) ?_) rfl
  rintro _ _ ⟨s79, rfl, rfl⟩
  refine Ops.u (Dtu.ext (lk rfl) rfl) rfl ?_
  refine Ops.u (Dtu.ext (lk rfl) rfl) rfl ?_
  refine Ops.u (Dtu.asg (lk rfl)) rfl ?_
  refine Ops.u (Dtu.asg (lk rfl)) rfl ?_
  refine Ops.nil ?_
  refine Then.next ?_
  refine Body.ret ?_
  exact ⟨.inr rfl, _, pk [0] rfl, s79, rfl, by rw [hfin]⟩
end Go.Proofs.Ytijjjdljdjnbaaa
end
section
/- The fields that bytes have; the first one of a tag. -/
namespace Go.Proofs.Ytijjjdljdjnbaaa
set_option maxRecDepth 100000
set_option linter.unusedVariables false
set_option linter.unusedSimpArgs false
open Go.Sx

/-- slices.Clone at one type -/
theorem cloneB_ok (E : Env) (v : Value) (m : Nat) (vs : List Value) (h : Sl E [] 1 v m vs) (h1 : vs.all (·.oneCell') = true) (hb : m * 1 ≤ 140737488355328) : Does Try.prog 123 #[v] E [] fun r H' => H' = [osl 5 1 r m vs] ∧ IsSl r := by
  refine Does.go (args := [v]) _ _ Try.func123 rfl Try.ntmps123 rfl rfl ?_
  refine Body.seq ?_
  refine Body.region ?_
  refine Ops.u (Dtu.asg (lk rfl)) rfl ?_
  refine Ops.nil ?_
  refine Then.next ?_
  refine Body.seq ?_
  refine Body.seq ?_
  refine Body.region ?_
  refine Ops.u (Dtu.mv (lk rfl)) rfl ?_
  refine Ops.u (Dtu.nilS Try.underlying32 (Sl.up h) (lk rfl)) rfl ?_
  refine Ops.nil ?_
  refine Then.next ?_
  refine Body.cond (lk rfl) (fun c4 => ?_) (fun c4 => ?_)
  · refine Body.pure (h.nil0 c4) ?_
    rintro ⟨rfl, rfl⟩
    refine Body.seq ?_
    refine Body.region ?_
    refine Ops.u (Dtu.asg (lk rfl)) rfl ?_
    refine Ops.nil ?_
    refine Then.next ?_
    refine Body.ret ?_
    refine Then.ret ?_
    exact ⟨.inr rfl, _, fun w s => osl_nil (pk [] rfl w s), rfl, ⟨_, _, _, rfl⟩⟩
  · refine Body.pure h.len ?_
    rintro ⟨hl, hm⟩
    refine Body.skip ?_
    refine Then.next ?_
    refine Body.seq ?_
    refine Body.region ?_
    refine Ops.s (Stp.buildSlice0 Try.underlying32 ty5 (fun b5 => ?_)) rfl
    refine Ops.u (Dtu.mv (lk rfl)) rfl ?_
    refine Ops.s (Stp.appendNew Try.underlying32 ty5 rfl (lk rfl) (lk rfl) h.up h1 hb hm (fun v7 => ?_)) rfl
    refine Ops.pure (Sl.isSl (Sl.osl 0 rfl)) fun hsl => ?_
    refine Ops.u (Dtu.asg (lk rfl)) rfl ?_
    refine Ops.nil ?_
    refine Then.next ?_
    refine Body.ret ?_
    exact ⟨.inr rfl, _, pk [0] rfl, rfl, hsl⟩

theorem all_u8 (l : List Int) : (l.map (Value.int .u8)).all (·.oneCell') = true := by
  rw [List.all_eq_true]; intro v hv; obtain ⟨x, _, rfl⟩ := List.mem_map.1 hv; rfl
def Fld.own (f : Fld) : HProp := osl 5 1 (.slice f.a f.m f.c) f.data.length (f.data.map (.int .u8))
abbrev TF := Int × List Int
def Fld.tf (f : Fld) : TF := (f.tag, f.data)
/-- the fields from a place on, or why there are none -/
def readFs (bs : List Int) : Nat → List TF → Nat → Int ⊕ List TF
  | 0, _, _ => .inl 0
  | k + 1, fs, a =>
    if a < bs.length then
      if fs.length = 128 then .inl 5
      else if (getS bs (a + 1)).2.2 ≠ 0 then .inl (getS bs (a + 1)).2.2
      else if 16384 < (getS bs (a + 1)).1 then .inl 2
      else if (bs.length : Int) - (getS bs (a + 1)).2.1 < (getS bs (a + 1)).1 then .inl 10
      else readFs bs k (fs ++ [(bs[a]!, (bs.drop (getS bs (a + 1)).2.1.toNat).take (getS bs (a + 1)).1.toNat)]) ((getS bs (a + 1)).2.1.toNat + (getS bs (a + 1)).1.toNat)
    else .inr fs
/-- the fields that bytes have -/
def fieldsP (bs : List Int) : Int ⊕ List TF := readFs bs (bs.length + 1) [] 0
set_option maxHeartbeats 3200000 in
theorem fields_ok (E : Env) (b : Value) (bs : List Int) (h : Sl E [] 1 b bs.length (bs.map (.int .u8))) (hb : Byt bs) (hmax : bs.length ≤ 100000) : Does Try.prog 88 #[b] E [] fun r H' =>
    match fieldsP bs with
    | .inr rs => ∃ (z1 : Option Addr) (z2 z3 : Nat) (L : List Fld), r = .tuple #[.slice z1 z2 z3, .int .i64 0] ∧ H' = [osl 137 2 (.slice z1 z2 z3) L.length (L.flatMap Fld.enc), many (L.map Fld.own)] ∧ L.map Fld.tf = rs
    | .inl e => r = .tuple #[.slice none 0 0, .int .i64 e] ∧ H' = [] := by
  refine Does.pure h.len fun hlen => ?_
  refine Does.go (args := [b]) _ _ Try.func88 rfl Try.ntmps88 rfl rfl ?_
  refine Body.seq ?_
  refine Body.region ?_
  refine Ops.u (Dtu.asg (lk rfl)) rfl ?_
  refine Ops.u (Dtu.asg (lk rfl)) rfl ?_
  refine Ops.nil ?_
  refine Then.next ?_
  refine Body.seq ?_
  refine Body.region ?_
  refine Ops.u (Dtu.asg (lk rfl)) rfl ?_
  refine Ops.nil ?_
  refine Then.next ?_
  refine Body.seq ?_
  refine Body.region ?_
  refine Ops.u (Dtu.asg (lk rfl)) rfl ?_
  refine Ops.nil ?_
  refine Then.next ?_
  refine Body.seq ?_
  refine Body.block ?_
  refine Body.conseq (H' := [osl 137 2 (.slice none 0 0) 0 [], many []]) (fun w s => osl_nil (many_nil s)) ?_
  refine Body.loopF (γ := Nat × List Fld × Nat × Value) rfl (fun g => [(5, .int .i64 g.2.2.1), (4, g.2.2.2)]) (fun g => [osl 137 2 g.2.2.2 g.2.1.length (g.2.1.flatMap Fld.enc), many (g.2.1.map Fld.own)])
    (fun g => readFs bs g.1 (g.2.1.map Fld.tf) g.2.2.1 = fieldsP bs ∧ g.2.2.1 ≤ bs.length ∧ bs.length - g.2.2.1 < g.1 ∧ g.2.1.length ≤ g.2.2.1 ∧ g.2.1.length ≤ 128) (fun g => g.1) (bs.length + 1, [], 0, .slice none 0 0) ⟨rfl, by simp, by simp, by simp, by simp⟩ ⟨rfl, rfl, trivial⟩ rfl ?_
  rintro ⟨k, L, a, O⟩ u ⟨hr, ha1, hk, hn, hn2⟩
  dsimp only at hr ha1 hk hn hn2 ⊢
  refine Body.pure (Sl.isSl (Sl.osl 0 rfl)) fun hO => ?_
  obtain ⟨z1, z2, z3, rfl⟩ := hO
  obtain ⟨k, rfl⟩ : ∃ k', k = k' + 1 := ⟨k - 1, by omega⟩
  have g1 := getS_bound bs hb (a + 1)
  have g2 := getS_next bs (a + 1)
  rw [readFs] at hr
  refine Body.seq ?_
  refine Body.seq ?_
  refine Body.region ?_
  refine Ops.u (Dtu.mv (lk rfl)) rfl ?_
  refine Ops.u (Dtu.mv (lk rfl)) rfl ?_
  refine Ops.u (Dtu.lenS Try.underlying32 (Sl.up h) (lk rfl)) rfl ?_
  refine Ops.u (Dtu.lss (lk rfl) (lk rfl)) rfl ?_
  refine Ops.nil ?_
  refine Then.next ?_
  refine Body.condP (lk rfl) (fun c13 => ?_) (fun c13 => ?_)
  · rw [if_pos (by omega)] at hr
    refine Body.skip ?_
    refine Then.next ?_
    refine Body.block ?_
    refine Body.seq ?_
    refine Body.seq ?_
    refine Body.region ?_
    refine Ops.u (Dtu.mv (lk rfl)) rfl ?_
    refine Ops.u (Dtu.lenS Try.underlying138 (Sl.osl 0 rfl) (lk rfl)) rfl ?_
    refine Ops.u (Dtu.eql (lk rfl) (lk rfl)) rfl ?_
    refine Ops.nil ?_
    refine Then.next ?_
    refine Body.condP (lk rfl) (fun c16 => ?_) (fun c16 => ?_)
    · rw [if_pos (by simp; omega)] at hr
      refine Body.seq ?_
      refine Body.region ?_
      refine Ops.u (Dtu.asg (lk rfl)) rfl ?_
      refine Ops.u (Dtu.asg (lk rfl)) rfl ?_
      refine Ops.nil ?_
      refine Then.next ?_
      refine Body.ret ?_
      refine Then.ret ?_
      refine Blk.ret ?_
      refine Round.ret ?_
      refine Blk.ret ?_
      refine Then.ret ?_
      rw [← hr]
      exact ⟨.inr rfl, _, pk [] rfl, rfl, rfl⟩
    · rw [if_neg (by simp; omega)] at hr
      refine Body.skip ?_
      refine Then.next ?_
      refine Body.seq ?_
      refine Body.region ?_
      refine Ops.u (Dtu.mv (lk rfl)) rfl ?_
      refine Ops.u (Dtu.mv (lk rfl)) rfl ?_
      refine Ops.u (Dtu.add (lk rfl) (lk rfl) (w64 (by omega) (by omega))) rfl ?_
      refine Ops.s (Stp.call rfl Try.call74 (lks rfl) (fun E' le hat => get_ok E' _ _ _ (Sl.mono (by assumption) le) (by assumption)) ?_) rfl
      rintro _ _ ⟨rfl, rfl⟩
      refine Ops.u (Dtu.mv (lk rfl)) rfl ?_
      refine Ops.u (Dtu.ext (lk rfl) rfl) rfl ?_
      refine Ops.u (Dtu.ext (lk rfl) rfl) rfl ?_
      refine Ops.u (Dtu.ext (lk rfl) rfl) rfl ?_
      refine Ops.u (Dtu.asg (lk rfl)) rfl ?_
      refine Ops.u (Dtu.asg (lk rfl)) rfl ?_
      refine Ops.u (Dtu.asg (lk rfl)) rfl ?_
      refine Ops.nil ?_
      refine Then.next ?_
      refine Body.seq ?_
      refine Body.block ?_
      refine Body.seq ?_
      refine Body.region ?_
      refine Ops.u (Dtu.mv (lk rfl)) rfl ?_
      refine Ops.u (Dtu.neq (lk rfl) (lk rfl)) rfl ?_
      refine Ops.u (Dtu.asg (lk rfl)) rfl ?_
      refine Ops.nil ?_
      refine Then.next ?_
      refine Body.condP (lk rfl) (fun c25 => ?_) (fun c25 => ?_)
      · rw [if_pos (by assumption)] at hr
        refine Body.seq ?_
        refine Body.region ?_
        refine Ops.u (Dtu.mv (lk rfl)) rfl ?_
        refine Ops.u (Dtu.asg (lk rfl)) rfl ?_
        refine Ops.u (Dtu.asg (lk rfl)) rfl ?_
        refine Ops.nil ?_
        refine Then.next ?_
        refine Body.ret ?_
        refine Blk.ret ?_
        refine Then.ret ?_
        refine Blk.ret ?_
        refine Round.ret ?_
        refine Blk.ret ?_
        refine Then.ret ?_
        rw [← hr]
        exact ⟨.inr rfl, _, pk [] rfl, rfl, rfl⟩
      · rw [if_neg (by assumption)] at hr
        have e1 := g2 (by omega)
        refine Body.seq ?_
        refine Body.region ?_
        refine Ops.u (Dtu.mv (lk rfl)) rfl ?_
        refine Ops.u (Dtu.gtr (lk rfl) (lk rfl)) rfl ?_
        refine Ops.u (Dtu.asg (lk rfl)) rfl ?_
        refine Ops.nil ?_
        refine Then.next ?_
        refine Body.condP (lk rfl) (fun c29 => ?_) (fun c29 => ?_)
        · rw [if_pos (by omega)] at hr
          refine Body.seq ?_
          refine Body.region ?_
          refine Ops.u (Dtu.asg (lk rfl)) rfl ?_
          refine Ops.u (Dtu.asg (lk rfl)) rfl ?_
          refine Ops.nil ?_
          refine Then.next ?_
          refine Body.ret ?_
          refine Blk.ret ?_
          refine Then.ret ?_
          refine Blk.ret ?_
          refine Round.ret ?_
          refine Blk.ret ?_
          refine Then.ret ?_
          rw [← hr]
          exact ⟨.inr rfl, _, pk [] rfl, rfl, rfl⟩
        · rw [if_neg (by omega)] at hr
          refine Body.seq ?_
          refine Body.region ?_
          refine Ops.u (Dtu.mv (lk rfl)) rfl ?_
          refine Ops.u (Dtu.mv (lk rfl)) rfl ?_
          refine Ops.u (Dtu.lenS Try.underlying32 (Sl.up h) (lk rfl)) rfl ?_
          refine Ops.u (Dtu.mv (lk rfl)) rfl ?_
          refine Ops.u (Dtu.sub (lk rfl) (lk rfl) (w64 (by omega) (by omega))) rfl ?_
          refine Ops.u (Dtu.cvt Try.underlying3 Try.underlying75 (lk rfl) (wu64 (by omega) (by omega))) rfl ?_
          refine Ops.u (Dtu.gtr (lk rfl) (lk rfl)) rfl ?_
          refine Ops.u (Dtu.asg (lk rfl)) rfl ?_
          refine Ops.nil ?_
          refine Then.next ?_
          refine Body.condP (lk rfl) (fun c32 => ?_) (fun c32 => ?_)
          · rw [if_pos (by omega)] at hr
            refine Body.seq ?_
            refine Body.region ?_
            refine Ops.u (Dtu.asg (lk rfl)) rfl ?_
            refine Ops.u (Dtu.asg (lk rfl)) rfl ?_
            refine Ops.nil ?_
            refine Then.next ?_
            refine Body.ret ?_
            refine Blk.ret ?_
            refine Then.ret ?_
            refine Blk.ret ?_
            refine Round.ret ?_
            refine Blk.ret ?_
            refine Then.ret ?_
            rw [← hr]
            exact ⟨.inr rfl, _, pk [] rfl, rfl, rfl⟩
          · rw [if_neg (by omega)] at hr
            obtain ⟨q, hq⟩ := Int.eq_ofNat_of_zero_le g1.1
            obtain ⟨p, hp⟩ := Int.eq_ofNat_of_zero_le (show 0 ≤ (getS bs (a + 1)).2.1 by omega)
            rw [hq, hp, Int.toNat_natCast, Int.toNat_natCast] at hr
            have i1 : (q : Int) ≤ 16384 := by omega
            have i2 : p + q ≤ bs.length := by omega
            have i3 : a + 1 < p := by omega
            rw [hq, hp]
            have hsub : Sl E [] 1 (subSl b 1 p (p + q) (capOf b)) q (((bs.drop p).take q).map (.int .u8)) := by
              have := Sl.subM h p (p + q) (by omega) i2; rwa [Nat.add_sub_cancel_left] at this
            refine Body.skip ?_
            refine Blk.norm ?_
            refine Then.next ?_
            refine Body.seq ?_
            refine Body.region ?_
            refine Ops.u (Dtu.mv (lk rfl)) rfl ?_
            refine Ops.u (Dtu.mv (lk rfl)) rfl ?_
            refine Ops.u (Dtu.cvt Try.underlying75 Try.underlying3 (lk rfl) (w64 (by omega) (by omega))) rfl ?_
            refine Ops.u (Dtu.add (lk rfl) (lk rfl) (w64 (by omega) (by omega))) rfl ?_
            refine Ops.u (Dtu.asg (lk rfl)) rfl ?_
            refine Ops.nil ?_
            refine Then.next ?_
            refine Body.seq ?_
            refine Body.draw mixed ?_
            refine AB.u 0 rfl (by decide +kernel) (Dtu.mv (lk rfl)) rfl ?_
            refine AB.u 1 rfl (by decide +kernel) (Dtu.mv (lk rfl)) rfl ?_
            refine AB.u 2 rfl (by decide +kernel) (Dtu.mv (lk rfl)) rfl ?_
            refine AB.u 3 rfl (by decide +kernel) (Dtu.ix (i := (a)) Try.underlying32 Try.sizeOf5 (Sl.up h) (lk rfl) (lk rfl) (by omega) (by omega)) rfl ?_
            refine AB.d 4 rfl (by decide +kernel) rfl (Det.ld Try.isAgg5 (lk rfl) (Rd.sl (Sl.up h) (gm (by omega)))) rfl ?_
            refine AB.u 5 rfl (by decide +kernel) (Dtu.mv (lk rfl)) rfl ?_
            refine AB.u 6 rfl (by decide +kernel) (Dtu.mv (lk rfl)) rfl ?_
            refine AB.u 7 rfl (by decide +kernel) (Dtu.mv (lk rfl)) rfl ?_
            refine AB.u 8 rfl (by decide +kernel) (Dtu.slLH (p) (p + q) Try.underlying32 Try.sizeOf5 (Sl.up h) (lk rfl) (lk rfl) (lk rfl) (by omega) (by omega) (by omega) (by omega)) rfl ?_
            refine AB.s 9 rfl (by decide +kernel) (by decide +kernel) (Stp.call rfl Try.call123 (lks rfl) (fun E' le hat => cloneB_ok E' _ _ _ (Sl.mono (by assumption) le) (all_u8 _) (by omega)) ?_) rfl
            rintro _ _ ⟨rfl, za53, zm53, zc53, rfl⟩
            refine AB.u 10 rfl (by decide +kernel) (Dtu.build ty137 pl137 (lkp rfl) rfl rfl) rfl ?_
            refine AB.s 11 rfl (by decide +kernel) (by decide +kernel) (Stp.buildSliceO Try.underlying138 ty137 (by decide) (by decide) (lkp rfl) rfl rfl rfl (by decide) (fun v55 => ?_)) rfl
            refine AB.s 12 rfl (by decide +kernel) (by decide +kernel) (Stp.append 2 Try.underlying138 ty137 rfl rfl (lk rfl) (lk rfl) (Sl.osl 0 rfl) (by first | rfl | exact all_map (fun _ => rfl) _ | exact all_flat (fun _ => rfl) _) (by omega) (by omega) (fun v56 => ?_)) rfl
            refine AB.u 13 rfl (by decide +kernel) (Dtu.asg (lk rfl)) rfl ?_
            refine AB.done (by decide +kernel) ?_
            refine Then.next ?_
            refine Body.region ?_
            refine Ops.u (Dtu.mv (lk rfl)) rfl ?_
            refine Ops.u (Dtu.asg (lk rfl)) rfl ?_
            refine Ops.nil ?_
            refine Blk.norm ?_
            have hx : (getS bs (a + 1)).2.1 + (getS bs (a + 1)).1 = ((p + q : Nat) : Int) := by omega
            refine Round.goW (k, L ++ [⟨bs[a]!, za53, zm53, zc53, (bs.drop p).take q⟩], p + q, v56) rfl rfl rfl ⟨int_eq (by dsimp only; omega), rfl, trivial⟩ (fun w s => ?_) ⟨?_, by dsimp only; omega, by dsimp only; omega, by simp; omega, by simp; omega⟩ (by simp)
            · have hql : ((bs.drop p).take q).length = q := by simp; omega
              have s1 := s.front [1, 2] rfl
              have s2 := many_snoc s1
              have s3 := pk [2, 0] rfl w s2
              dsimp only
              simp only [List.length_append, List.length_cons, List.length_nil, List.flatMap_append, List.flatMap_cons, List.flatMap_nil, List.map_append, List.map_cons, List.map_nil, List.append_nil, Fld.own, Fld.enc, hql]
              exact s3
            · dsimp only
              rw [← hr]; simp [Fld.tf]
  · rw [if_neg (by omega)] at hr
    refine Body.exit ?_
    refine Then.exit ?_
    refine Round.exit ?_
    refine Blk.here ?_
    refine Then.next ?_
    refine Body.seq ?_
    refine Body.region ?_
    refine Ops.u (Dtu.mv (lk rfl)) rfl ?_
    refine Ops.u (Dtu.asg (lk rfl)) rfl ?_
    refine Ops.u (Dtu.asg (lk rfl)) rfl ?_
    refine Ops.nil ?_
    refine Then.next ?_
    refine Body.ret ?_
    rw [← hr]
    exact ⟨.inr rfl, _, pk [0, 0] rfl, z1, z2, z3, L, rfl, rfl, rfl⟩
end Go.Proofs.Ytijjjdljdjnbaaa
end
section
/- The first field of a tag. -/
namespace Go.Proofs.Ytijjjdljdjnbaaa
set_option maxRecDepth 100000
set_option linter.unusedVariables false
set_option linter.unusedSimpArgs false
open Go.Sx

theorem tagIs_ok (E : Env) (f : Fld) (t : Int) (b : Nat) : Does Try.prog 125 #[.agg f.enc.toArray, .pointer (some ⟨b, 0, none⟩)] E [own b [.int .u8 t] 5] fun r H' => r = .bool (decide (f.tag = t)) ∧ H' = [own b [.int .u8 t] 5] := by
  refine Does.go (args := [.agg f.enc.toArray, .pointer (some ⟨b, 0, none⟩)]) _ _ Try.func125 rfl Try.ntmps125 rfl rfl ?_
  refine Body.seq ?_
  refine Body.region ?_
  refine Ops.s (Stp.box (lk rfl) rfl (fun b2 => ?_)) rfl
  refine Ops.u (Dtu.asg (lk rfl)) rfl ?_
  refine Ops.nil ?_
  refine Then.next ?_
  refine Body.seq ?_
  refine Body.region ?_
  refine Ops.u (Dtu.fld fa137_0 (lk rfl)) rfl ?_
  refine Ops.d (Det.ld Try.isAgg5 (lk rfl) (Rd.ow 0 rfl rfl)) rfl ?_
  refine Ops.d (Det.ld Try.isAgg5 (lk rfl) (Rd.ow 1 rfl rfl)) rfl ?_
  refine Ops.u (Dtu.eql (lk rfl) (lk rfl)) rfl ?_
  refine Ops.u (Dtu.asg (lk rfl)) rfl ?_
  refine Ops.nil ?_
  refine Then.next ?_
  refine Body.ret ?_
  exact ⟨.inr rfl, _, pk [1] rfl, rfl, rfl⟩
theorem indexF_ok (E : Env) (s : Value) (L : List Fld) (t : Int) (b : Nat) (h : Sl E [] 2 s L.length (L.flatMap Fld.enc)) : Does Try.prog 124 #[s, .func (.func 125) #[] #[.pointer (some ⟨b, 0, none⟩)]] E [own b [.int .u8 t] 5] fun r H' => r = .int .i64 (firstAt (fun f => decide (f.tag = t)) L) ∧ H' = [own b [.int .u8 t] 5] := by
  refine Does.pure (Sl.up h).len fun hlen => ?_
  refine Does.go (args := [s, .func (.func 125) #[] #[.pointer (some ⟨b, 0, none⟩)]]) _ _ Try.func124 rfl Try.ntmps124 rfl rfl ?_
  refine Body.seq ?_
  refine Body.region ?_
  refine Ops.u (Dtu.asg (lk rfl)) rfl ?_
  refine Ops.nil ?_
  refine Then.next ?_
  refine Body.seq ?_
  refine Body.seq ?_
  refine Body.region ?_
  refine Ops.u (Dtu.mv (lk rfl)) rfl ?_
  refine Ops.u (Dtu.lenS Try.underlying138 (Sl.up h) (lk rfl)) rfl ?_
  refine Ops.u (Dtu.mv (lk rfl)) rfl ?_
  refine Ops.nil ?_
  refine Then.next ?_
  refine Body.block ?_
  refine Body.loopF (γ := Nat) rfl (fun k => [(8, .int .i64 k)]) (fun _ => [own b [.int .u8 t] 5]) (fun k => k ≤ L.length ∧ ∀ j, j < k → decide (L[j]!.tag = t) = false) (fun k => L.length - k) 0 ⟨by omega, fun j hj => by omega⟩ ⟨rfl, trivial⟩ rfl ?_
  rintro k u ⟨hk, hb⟩
  refine Body.seq ?_
  refine Body.region ?_
  refine Ops.u (Dtu.lss (lk rfl) (lk rfl)) rfl ?_
  refine Ops.nil ?_
  refine Then.next ?_
  refine Body.seq ?_
  refine Body.condP (lk rfl) (fun c9 => ?_) (fun c9 => ?_)
  · refine Body.skip ?_
    refine Then.next ?_
    refine Body.seq ?_
    refine Body.block ?_
    refine Body.seq ?_
    refine Body.region ?_
    refine Ops.u (Dtu.mv (lk rfl)) rfl ?_
    refine Ops.u (Dtu.asg (lk rfl)) rfl ?_
    refine Ops.nil ?_
    refine Then.next ?_
    refine Body.seq ?_
    refine Body.region ?_
    refine Ops.u (Dtu.mv (lk rfl)) rfl ?_
    refine Ops.u (Dtu.mv (lk rfl)) rfl ?_
    refine Ops.u (Dtu.mv (lk rfl)) rfl ?_
    refine Ops.u (Dtu.ix (i := (k)) Try.underlying138 Try.sizeOf137 (Sl.up h) (lk rfl) (lk rfl) (by omega) (by omega)) rfl ?_
    refine Ops.d (Det.lda Try.isAgg137 Try.sizeOf137 (lk rfl) (Rds.sl (Sl.up h) (gf (sz := 2) (fun _ => rfl) (by omega))) rfl) rfl ?_
    refine Ops.s (Stp.callClo [0] rfl (cap := [.pointer (some ⟨b, 0, none⟩)]) (lk rfl) Try.call125 (lks rfl) (fun E' le hat => tagIs_ok E' L[k]! t b) ?_) rfl
    rintro _ _ ⟨rfl, rfl⟩
    refine Ops.nil ?_
    refine Then.next ?_
    refine Body.condP (lk rfl) (fun c16 => ?_) (fun c16 => ?_)
    · refine Body.seq ?_
      refine Body.region ?_
      refine Ops.u (Dtu.mv (lk rfl)) rfl ?_
      refine Ops.u (Dtu.asg (lk rfl)) rfl ?_
      refine Ops.nil ?_
      refine Then.next ?_
      refine Body.ret ?_
      refine Blk.ret ?_
      refine Then.ret ?_
      refine Round.ret ?_
      refine Blk.ret ?_
      refine Then.ret ?_
      exact ⟨.inr rfl, _, pk [0] rfl, by rw [firstAt_some (p := fun f : Fld => decide (f.tag = t)) (by omega) (decide_eq_true c16) hb]; rfl, rfl⟩
    · refine Body.skip ?_
      refine Blk.norm ?_
      refine Then.next ?_
      refine Body.region ?_
      refine Ops.u (Dtu.add (lk rfl) (lk rfl) (w64 (by omega) (by omega))) rfl ?_
      refine Ops.u (Dtu.mv (lk rfl)) rfl ?_
      refine Ops.nil ?_
      refine Round.goF (k + 1) rfl rfl rfl ⟨int_eq (by omega), trivial⟩ rfl ⟨by omega, fun j hj => ?_⟩ (by omega)
      by_cases e : j = k
      · subst e; exact decide_eq_false c16
      · exact hb j (by omega)
  · refine Body.exit ?_
    refine Then.exit ?_
    refine Round.exit ?_
    refine Blk.here ?_
    refine Then.next ?_
    refine Body.seq ?_
    refine Body.region ?_
    refine Ops.u (Dtu.asg (lk rfl)) rfl ?_
    refine Ops.nil ?_
    refine Then.next ?_
    refine Body.ret ?_
    exact ⟨.inr rfl, _, pk [0] rfl, by rw [firstAt_none (p := fun f : Fld => decide (f.tag = t)) (fun j hj => hb j (by omega))]; rfl, rfl⟩
/-- the bytes of the first field of a tag -/
def findP (rs : List TF) (t : Int) : Option (List Int) := (rs.find? (fun x => decide (x.1 = t))).map (·.2)
theorem findP_map {L : List Fld} {t : Int} : findP (L.map Fld.tf) t = (L.find? (fun f => decide (f.tag = t))).map (·.data) := by
  induction L with
  | nil => rfl
  | cons f L ih =>
    unfold findP at ih ⊢
    by_cases h : f.tag = t
    · simp [Fld.tf, h]
    · simp only [List.map_cons, List.find?_cons, Fld.tf, decide_eq_false h]
      exact ih
theorem findP_some {L : List Fld} {t : Int} {i : Nat} (h : firstAt (fun f => decide (f.tag = t)) L = i) : i < L.length ∧ findP (L.map Fld.tf) t = some L[i]!.data := by
  unfold firstAt at h
  split at h
  · rename_i j hj
    obtain rfl : j = i := by omega
    rw [List.findIdx?_eq_some_iff_getElem] at hj
    obtain ⟨hj, h1, h2⟩ := hj
    refine ⟨hj, ?_⟩
    rw [findP_map, getElem!_pos L j hj, show L.find? (fun f => decide (f.tag = t)) = some L[j] from List.find?_eq_some_iff_getElem.2 ⟨h1, j, hj, rfl, fun k hk => by simpa using h2 k hk⟩]
    rfl
  · omega
theorem findP_none {L : List Fld} {t : Int} (h : firstAt (fun f => decide (f.tag = t)) L < 0) : findP (L.map Fld.tf) t = none := by
  unfold firstAt at h
  split at h
  · omega
  · rename_i hj
    rw [findP_map, List.find?_eq_none.2 (by rw [List.findIdx?_eq_none_iff] at hj; intro x hx; simpa using hj x hx)]
    rfl
theorem find_ok (E : Env) (s : Value) (L : List Fld) (t : Int) (h : Sl E [] 2 s L.length (L.flatMap Fld.enc)) (hd : ∀ f ∈ L, f.has E []) (hl : ∀ f ∈ L, f.data.length ≤ 16384) : Does Try.prog 89 #[s, .int .u8 t] E [] fun r H' =>
    match findP (L.map Fld.tf) t with
    | some d => ∃ (x1 : Option Addr) (x2 x3 : Nat), r = .tuple #[.slice x1 x2 x3, .bool true] ∧ H' = [osl 5 1 (.slice x1 x2 x3) d.length (d.map (.int .u8))]
    | none => r = .tuple #[.slice none 0 0, .bool false] ∧ H' = [] := by
  refine Does.go (args := [s, .int .u8 t]) _ _ Try.func89 rfl Try.ntmps89 rfl rfl ?_
  refine Body.seq ?_
  refine Body.region ?_
  refine Ops.s (Stp.box (lk rfl) rfl (fun b3 => ?_)) rfl
  refine Ops.u (Dtu.asg (lk rfl)) rfl ?_
  refine Ops.u (Dtu.asg (lk rfl)) rfl ?_
  refine Ops.nil ?_
  refine Then.next ?_
  refine Body.seq ?_
  refine Body.region ?_
  refine Ops.u (Dtu.mv (lk rfl)) rfl ?_
  refine Ops.u (Dtu.mkfC rfl) rfl ?_
  refine Ops.s (Stp.callOwn [0] rfl rfl Try.call124 (lks rfl) (fun E' le hat => indexF_ok E' s L t b3 (h.mono le)) ?_) rfl
  rintro _ _ ⟨rfl, rfl⟩
  refine Ops.u (Dtu.asg (lk rfl)) rfl ?_
  refine Ops.nil ?_
  refine Then.next ?_
  refine Body.seq ?_
  refine Body.seq ?_
  refine Body.region ?_
  refine Ops.u (Dtu.mv (lk rfl)) rfl ?_
  refine Ops.u (Dtu.lss (lk rfl) (lk rfl)) rfl ?_
  refine Ops.nil ?_
  refine Then.next ?_
  refine Body.condP (lk rfl) (fun c11 => ?_) (fun c11 => ?_)
  · rw [findP_none (by assumption)]
    refine Body.seq ?_
    refine Body.region ?_
    refine Ops.u (Dtu.asg (lk rfl)) rfl ?_
    refine Ops.u (Dtu.asg (lk rfl)) rfl ?_
    refine Ops.nil ?_
    refine Then.next ?_
    refine Body.ret ?_
    refine Then.ret ?_
    exact ⟨.inr rfl, _, pk [] rfl, rfl, rfl⟩
  · obtain ⟨i, hi⟩ := Int.eq_ofNat_of_zero_le (show 0 ≤ firstAt (fun f : Fld => decide (f.tag = t)) L by omega)
    obtain ⟨hlt, hf⟩ := findP_some hi
    rw [hf, hi]
    have hm : L[i]! ∈ L := by rw [getElem!_pos L i hlt]; exact List.getElem_mem _
    have hx := hd _ hm
    have hy := hl _ hm
    unfold Fld.has at hx
    refine Body.skip ?_
    refine Then.next ?_
    refine Body.seq ?_
    refine Body.region ?_
    refine Ops.u (Dtu.mv (lk rfl)) rfl ?_
    refine Ops.u (Dtu.mv (lk rfl)) rfl ?_
    refine Ops.u (Dtu.ix (i := (i)) Try.underlying138 Try.sizeOf137 (Sl.up h) (lk rfl) (lk rfl) (by omega) (by omega)) rfl ?_
    refine Ops.u (Dtu.fld fa137_1 (lk rfl)) rfl ?_
    refine Ops.d (Det.ld Try.isAgg32 (lk rfl) (Rd.sl2 (Sl.up h) (gfe (sz := 2) (fun _ => rfl) (by omega) rfl))) rfl ?_
    refine Ops.s (Stp.call rfl Try.call123 (lks rfl) (fun E' le hat => cloneB_ok E' _ _ _ (Sl.mono (by assumption) le) (all_u8 _) (by omega)) ?_) rfl
    rintro _ _ ⟨rfl, za17, zm17, zc17, rfl⟩
    refine Ops.u (Dtu.asg (lk rfl)) rfl ?_
    refine Ops.u (Dtu.asg (lk rfl)) rfl ?_
    refine Ops.nil ?_
    refine Then.next ?_
    refine Body.ret ?_
    exact ⟨.inr rfl, _, pk [0] rfl, _, _, _, rfl, rfl⟩
end Go.Proofs.Ytijjjdljdjnbaaa
end
section
/- States: Apply, what it computes. -/
namespace Go.Proofs.Ytijjjdljdjnbaaa
set_option maxRecDepth 100000
set_option linter.unusedVariables false
set_option linter.unusedSimpArgs false
open Go.Sx

theorem many_has {E : Env} {L : List Fld} (h : At (many (L.map Fld.own)) E) : ∀ f ∈ L, f.has E [] := by
  intro f hf
  obtain ⟨j, hj, rfl⟩ := List.getElem_of_mem hf
  exact Sl.atMany j h (t := 5) (by simp [Fld.own, hj])
def titleP (l : List TF) (a : Stt) : ByteArray := match findP l 2 with
  | none => a.title
  | some d => strOfNums d
def clipP (l : List TF) (a : Stt) : Option (Int × ByteArray) := match findP l 3 with
  | none => some (a.clips, a.clip)
  | some d => if (getS d 0).2.2 ≠ 0 then none else some ((getS d 0).1, strOfNums (d.drop (getS d 0).2.1.toNat))
def bellsP (l : List TF) (a : Stt) : Option Int := match findP l 4 with
  | none => some a.bells
  | some d => if (getS d 0).2.2 ≠ 0 then none else some (getS d 0).1
/-- the state that the parts make, if bytes are its change -/
def sfinP (a : Stt) (v : View) (t : ByteArray) (c : Int × ByteArray) (m : Int) (bs : List Int) : Option Stt :=
  if (Stt.mk v t c.2 c.1 m).ok = true ∧ sdifB a ⟨v, t, c.2, c.1, m⟩ = bs then some ⟨v, t, c.2, c.1, m⟩ else none
def sapplyL (a : Stt) (l : List TF) (bs : List Int) : Option Stt :=
  match findP l 1 with
  | none => none
  | some p => match applyV a.v p with
    | none => none
    | some v => match clipP l a with
      | none => none
      | some c => match bellsP l a with
        | none => none
        | some m => sfinP a v (titleP l a) c m bs
/-- the state to which bytes are a change from a state -/
def sapplyV (a : Stt) (bs : List Int) : Option Stt :=
  match fieldsP bs with
  | .inl _ => none
  | .inr l => if a.ok = true then sapplyL a l bs else none
def Stt.none : Stt := ⟨View.none, ⟨#[]⟩, ⟨#[]⟩, 0, 0⟩
theorem readFs_lens {bs : List Int} {k : Nat} {fs rs : List TF} {a : Nat} (h : readFs bs k fs a = .inr rs) (hf : ∀ f ∈ fs, f.2.length ≤ 16384) : ∀ f ∈ rs, f.2.length ≤ 16384 := by
  induction k generalizing fs a with
  | zero => cases h
  | succ k ih =>
    rw [readFs] at h
    split at h
    · split at h
      · cases h
      · split at h
        · cases h
        · split at h
          · cases h
          · split at h
            · cases h
            · refine ih h fun f hm => ?_
              rcases List.mem_append.1 hm with hm | hm
              · exact hf f hm
              · rw [List.mem_singleton.1 hm]; simp; omega
    · injection h with h; subst h; exact hf
theorem readFs_byt {bs : List Int} (hb : Byt bs) {k : Nat} {fs rs : List TF} {a : Nat} (h : readFs bs k fs a = .inr rs) (hf : ∀ f ∈ fs, Byt f.2) : ∀ f ∈ rs, Byt f.2 := by
  induction k generalizing fs a with
  | zero => cases h
  | succ k ih =>
    rw [readFs] at h
    split at h
    · split at h
      · cases h
      · split at h
        · cases h
        · split at h
          · cases h
          · split at h
            · cases h
            · refine ih h fun f hm => ?_
              rcases List.mem_append.1 hm with hm | hm
              · exact hf f hm
              · rw [List.mem_singleton.1 hm]
                intro i hi
                have hi2 := hi
                simp only [List.length_take, List.length_drop] at hi2
                rw [getElem!_pos _ i hi]
                simp only [List.getElem_take, List.getElem_drop]
                rw [← getElem!_pos bs _ (by omega)]
                exact hb _ (by omega)
    · injection h with h; subst h; exact hf
theorem findP_in {l : List TF} {t : Int} {d : List Int} (h : findP l t = some d) : ∃ f ∈ l, f.2 = d := by
  unfold findP at h
  cases hf : l.find? (fun x => decide (x.1 = t)) with
  | none => rw [hf] at h; cases h
  | some f => rw [hf] at h; injection h with h; exact ⟨f, List.mem_of_find?_eq_some hf, h⟩
theorem readFs_ne {bs : List Int} {k : Nat} {fs : List TF} {a : Nat} {e : Int} (h : readFs bs k fs a = .inl e) (hk : bs.length - a < k) : e ≠ 0 := by
  induction k generalizing fs a with
  | zero => omega
  | succ k ih =>
    rw [readFs] at h
    split at h
    · split at h
      · injection h with h; omega
      · split at h
        · injection h with h; omega
        · rename_i h3
          have g2 := getS_next bs (a + 1) (by omega)
          split at h
          · injection h with h; omega
          · split at h
            · injection h with h; omega
            · exact ih h (by omega)
    · cases h
theorem applyV_fl {a v : View} {bs : List Int} (hb : Byt bs) (hfl : ∀ c ∈ a.cells, c.Fl) (h : applyV a bs = some v) : ∀ c ∈ v.cells, c.Fl := by
  unfold applyV at h
  cases hr : runsP bs with
  | none => rw [hr] at h; cases h
  | some rs =>
    rw [hr] at h
    dsimp only at h
    split at h
    · cases h
    · split at h
      · injection h with h; subst h
        exact applyL_fl rs _ 0 (baseC_fl hfl _ _) (runsP_fine hb hr)
      · cases h
theorem fldB_byt {t : Int} {d : List Int} (ht : 0 ≤ t ∧ t < 256) (hd : BytM d) (hl : d.length ≤ 16384) : BytM (fldB t d) :=
  .append (.cons ht .nil) (.append (putL_byt (by omega) (by omega)) hd)
theorem sdifL_mem {a b : Stt} {x : TF} (h : x ∈ sdifL a b) : x = (1, difB a.v b.v) ∨ x = (2, numsOf b.title) ∨ x = (3, putL b.clips ++ numsOf b.clip) ∨ x = (4, putL b.bells) := by
  simp only [sdifL, List.mem_append] at h
  rcases h with ((h | h) | h) | h
  · exact .inl (List.mem_singleton.1 h)
  · split at h
    · exact .inr (.inl (List.mem_singleton.1 h))
    · cases h
  · split at h
    · exact .inr (.inr (.inl (List.mem_singleton.1 h)))
    · cases h
  · split at h
    · exact .inr (.inr (.inr (List.mem_singleton.1 h)))
    · cases h
theorem difB_most {a b : View} (ka : a.ok = true) (kb : b.ok = true) : (difB a b).length ≤ 8165 := by
  have h1 := (difB_len ka kb).1
  have h2 := difP_len ka kb
  have h3 := (ok_480 kb).2
  have h4 := others_le (difP a b)
  omega
theorem sdifB_byt {a b : Stt} (ka : a.ok = true) (kb : b.ok = true) (hf : ∀ c ∈ b.v.cells, c.Fl) (h0 : 0 ≤ b.clips) (h1 : 0 ≤ b.bells) : Byt (sdifB a b) := by
  obtain ⟨kav, _⟩ := Stt.ok_fits ka
  obtain ⟨kbv, t1, t2, t3, t4⟩ := Stt.ok_fits kb
  have hz1 := sizeS_le b.clips
  have hz2 := sizeS_le b.bells
  have hd := difB_most kav kbv
  refine BytM.byt fun x hx => ?_
  simp only [sdifB, List.mem_flatMap] at hx
  obtain ⟨f, hf2, hx⟩ := hx
  rcases sdifL_mem hf2 with rfl | rfl | rfl | rfl
  · exact fldB_byt (by dsimp only; omega) (difB_byt kbv hf).mem (by omega) x hx
  · exact fldB_byt (by dsimp only; omega) (Byt.mem (numsOf_byt _)) (by rw [numsOf_len]; omega) x hx
  · exact fldB_byt (by dsimp only; omega) (.append (putL_byt h0 (by omega)) (Byt.mem (numsOf_byt _))) (by rw [List.length_append, numsOf_len, putL_len]; omega) x hx
  · exact fldB_byt (by dsimp only; omega) (putL_byt h1 (by omega)) (by rw [putL_len]; omega) x hx
set_option maxHeartbeats 3200000 in
theorem sapply_ok (E : Env) (a : Stt) (s b : Value) (bs : List Int) (ha : a.v.has E [] s) (h : Sl E [] 1 b bs.length (bs.map (.int .u8))) (hb : Byt bs) (hmax : bs.length ≤ 100000) (hfl : ∀ c ∈ a.v.cells, c.Fl) (hc : 0 ≤ a.clips) (hbe : 0 ≤ a.bells) : Does Try.prog 47 #[a.val s, b] E [] fun r H' =>
    match sapplyV a bs with
    | some v => ∃ s, r = .tuple #[v.val s, .int .i64 0] ∧ H' = [osl 55 4 s v.v.cells.length (v.v.cells.flatMap Cell.enc)]
    | none => r = .tuple #[Stt.none.val (.slice none 0 0), .int .i64 3] ∧ H' = [] := by
  have hR := fun (E' : Env) (le : Env.Le E E') => fields_ok E' b bs (Sl.mono h le) hb hmax
  unfold View.has at ha
  refine Does.pure ha.isSl fun hs => ?_
  obtain ⟨sa, sm, sc, rfl⟩ := hs
  refine Does.go (args := [a.val (.slice sa sm sc), b]) _ _ Try.func47 rfl Try.ntmps47 rfl rfl ?_
  unfold sapplyV
  cases hr : fieldsP bs with
  | inl e =>
    rw [hr] at hR
    dsimp only at hR ⊢
    have he : e ≠ 0 := readFs_ne hr (by omega)
    refine Body.seq ?_
    refine Body.region ?_
    refine Ops.s (Stp.box (lk rfl) rfl (fun b2 => ?_)) rfl
    refine Ops.s (Stp.alloc ty77 (fun b4 => ?_)) rfl
    refine Ops.u (Dtu.asg (lk rfl)) rfl ?_
    refine Ops.nil ?_
    refine Then.next ?_
    refine Body.seq ?_
    refine Body.region ?_
    refine Ops.u (Dtu.mv (lk rfl)) rfl ?_
    refine Ops.s (Stp.call rfl Try.call88 (lks rfl) (fun E' le hat => hR E' le) ?_) rfl
    rintro _ _ ⟨rfl, rfl⟩
    refine Ops.u (Dtu.mv (lk rfl)) rfl ?_
    refine Ops.u (Dtu.ext (lk rfl) rfl) rfl ?_
    refine Ops.u (Dtu.ext (lk rfl) rfl) rfl ?_
    refine Ops.u (Dtu.asg (lk rfl)) rfl ?_
    refine Ops.u (Dtu.asg (lk rfl)) rfl ?_
    refine Ops.nil ?_
    refine Then.next ?_
    refine Body.seq ?_
    refine Body.seq ?_
    refine Body.region ?_
    refine Ops.u (Dtu.mv (lk rfl)) rfl ?_
    refine Ops.u (Dtu.neq (lk rfl) (lk rfl)) rfl ?_
    refine Ops.u (Dtu.mv (lk rfl)) rfl ?_
    refine Ops.decP 32 rfl (fun _ => ?_) (fun hn => absurd (by first | omega | assumption | decide) hn)
    refine Ops.gn rfl rfl rfl rfl rfl ?_
    refine Ops.gn rfl rfl rfl rfl rfl ?_
    refine Ops.gn rfl rfl rfl rfl rfl ?_
    refine Ops.u (Dtu.pickT (lk rfl) (lk rfl)) rfl ?_
    refine Ops.nil ?_
    refine Then.next ?_
    refine Body.condT (lk rfl) ?_
    refine Body.seq ?_
    refine Body.region ?_
    refine Ops.u (Dtu.build ty77 pl77 (lkp rfl) rfl rfl) rfl ?_
    refine Ops.e (Stp.store 0 Try.sizeOf77 (lk rfl) (lk rfl) rfl rfl rfl rfl rfl rfl rfl ?_)
    refine Ops.u (Dtu.asg (lk rfl)) rfl ?_
    refine Ops.nil ?_
    refine Then.next ?_
    refine Body.ret ?_
    refine Then.ret ?_
    exact ⟨.inr rfl, _, Loads.agg Try.isAgg77 Try.sizeOf77 (Rds.ow (m := 10) 0 rfl rfl) rfl, _, pk [] rfl, rfl, rfl⟩
  | inr rs =>
    rw [hr] at hR
    dsimp only at hR ⊢
    have hlens := readFs_lens hr (fun _ h => nomatch h)
    have hbyt := readFs_byt hb hr (fun _ h => nomatch h)
    refine Body.seq ?_
    refine Body.region ?_
    refine Ops.s (Stp.box (lk rfl) rfl (fun b2 => ?_)) rfl
    refine Ops.s (Stp.alloc ty77 (fun b4 => ?_)) rfl
    refine Ops.u (Dtu.asg (lk rfl)) rfl ?_
    refine Ops.nil ?_
    refine Then.next ?_
    refine Body.seq ?_
    refine Body.region ?_
    refine Ops.u (Dtu.mv (lk rfl)) rfl ?_
    refine Ops.s (Stp.call rfl Try.call88 (lks rfl) (fun E' le hat => hR E' le) ?_) rfl
    rintro _ _ ⟨l1, l2, l3, L, rfl, rfl, hL⟩
    cases hk : a.ok with
    | false =>
      refine Ops.u (Dtu.mv (lk rfl)) rfl ?_
      refine Ops.u (Dtu.ext (lk rfl) rfl) rfl ?_
      refine Ops.u (Dtu.ext (lk rfl) rfl) rfl ?_
      refine Ops.u (Dtu.asg (lk rfl)) rfl ?_
      refine Ops.u (Dtu.asg (lk rfl)) rfl ?_
      refine Ops.nil ?_
      refine Then.next ?_
      refine Body.seq ?_
      refine Body.seq ?_
      refine Body.region ?_
      refine Ops.u (Dtu.mv (lk rfl)) rfl ?_
      refine Ops.u (Dtu.neq (lk rfl) (lk rfl)) rfl ?_
      refine Ops.u (Dtu.mv (lk rfl)) rfl ?_
      refine Ops.decP 32 rfl (fun hy => absurd hy (by first | omega | assumption | decide)) (fun _ => ?_)
      refine Ops.gd rfl rfl rfl (Det.lda Try.isAgg77 Try.sizeOf77 (lk rfl) (Rds.ow (m := 10) 3 rfl rfl) rfl) rfl ?_
      refine Ops.gs rfl rfl rfl (Stp.call rfl Try.call42 (lks rfl) (fun E' le hat => sright_ok E' ⟨⟨_, _, _, _, _, _⟩, _, _, _, _⟩ _ (Sl.mono (by assumption) le)) ?_) rfl
      rintro _ _ ⟨rfl, rfl⟩
      refine Ops.gu rfl rfl rfl (Dtu.not (lk rfl)) rfl ?_
      refine Ops.u (Dtu.pickF (lk rfl) (lk rfl)) rfl ?_
      refine Ops.nil ?_
      refine Then.next ?_
      refine Body.cond (lk rfl) (fun _ => ?_) (fun hn => absurd hn (by simp [hk]))
      refine Body.seq ?_
      refine Body.region ?_
      refine Ops.u (Dtu.build ty77 pl77 (lkp rfl) rfl rfl) rfl ?_
      refine Ops.e (Stp.store 2 Try.sizeOf77 (lk rfl) (lk rfl) rfl rfl rfl rfl rfl rfl rfl ?_)
      refine Ops.u (Dtu.asg (lk rfl)) rfl ?_
      refine Ops.nil ?_
      refine Then.next ?_
      refine Body.ret ?_
      refine Then.ret ?_
      exact ⟨.inr rfl, _, Loads.agg Try.isAgg77 Try.sizeOf77 (Rds.ow (m := 10) 2 rfl rfl) rfl, _, pk [] rfl, rfl, rfl⟩
    | true =>
      have hF : ∀ (t : Int) (E' : Env), At (osl 137 2 (.slice l1 l2 l3) L.length (L.flatMap Fld.enc)) E' → At (many (L.map Fld.own)) E' → Does Try.prog 89 #[.slice l1 l2 l3, .int .u8 t] E' [] fun r H' =>
          match findP rs t with
          | some d => ∃ (x1 : Option Addr) (x2 x3 : Nat), r = .tuple #[.slice x1 x2 x3, .bool true] ∧ H' = [osl 5 1 (.slice x1 x2 x3) d.length (d.map (.int .u8))]
          | none => r = .tuple #[.slice none 0 0, .bool false] ∧ H' = [] := fun t E' h1 h2 => hL ▸ find_ok E' _ L t (Sl.at h1) (many_has h2) (fun f hf => hlens f.tf (hL ▸ List.mem_map_of_mem hf))
      rw [if_pos rfl]
      unfold sapplyL
      have hF1 := hF 1
      cases h1 : findP rs 1 with
      | none =>
        rw [h1] at hF1
        dsimp only at hF1 ⊢
        refine Ops.u (Dtu.mv (lk rfl)) rfl ?_
        refine Ops.u (Dtu.ext (lk rfl) rfl) rfl ?_
        refine Ops.u (Dtu.ext (lk rfl) rfl) rfl ?_
        refine Ops.u (Dtu.asg (lk rfl)) rfl ?_
        refine Ops.u (Dtu.asg (lk rfl)) rfl ?_
        refine Ops.nil ?_
        refine Then.next ?_
        refine Body.seq ?_
        refine Body.seq ?_
        refine Body.region ?_
        refine Ops.u (Dtu.mv (lk rfl)) rfl ?_
        refine Ops.u (Dtu.neq (lk rfl) (lk rfl)) rfl ?_
        refine Ops.u (Dtu.mv (lk rfl)) rfl ?_
        refine Ops.decP 32 rfl (fun hy => absurd hy (by first | omega | assumption | decide)) (fun _ => ?_)
        refine Ops.gd rfl rfl rfl (Det.lda Try.isAgg77 Try.sizeOf77 (lk rfl) (Rds.ow (m := 10) 3 rfl rfl) rfl) rfl ?_
        refine Ops.gs rfl rfl rfl (Stp.call rfl Try.call42 (lks rfl) (fun E' le hat => sright_ok E' ⟨⟨_, _, _, _, _, _⟩, _, _, _, _⟩ _ (Sl.mono (by assumption) le)) ?_) rfl
        rintro _ _ ⟨rfl, rfl⟩
        refine Ops.gu rfl rfl rfl (Dtu.not (lk rfl)) rfl ?_
        refine Ops.u (Dtu.pickF (lk rfl) (lk rfl)) rfl ?_
        refine Ops.nil ?_
        refine Then.next ?_
        refine Body.cond (lk rfl) (fun hn => absurd hn (by simp [hk])) (fun _ => ?_)
        refine Body.skip ?_
        refine Then.next ?_
        refine Body.seq ?_
        refine Body.region ?_
        refine Ops.d (Det.lda Try.isAgg77 Try.sizeOf77 (lk rfl) (Rds.ow (m := 10) 3 rfl rfl) rfl) rfl ?_
        refine Ops.s (Stp.alloc ty77 (fun b8 => ?_)) rfl
        refine Ops.e (Stp.store 0 Try.sizeOf77 (lk rfl) (lk rfl) rfl rfl rfl rfl rfl rfl rfl ?_)
        refine Ops.nil ?_
        refine Then.next ?_
        refine Body.seq ?_
        refine Body.region ?_
        refine Ops.u (Dtu.mv (lk rfl)) rfl ?_
        refine Ops.s (Stp.call rfl Try.call89 (lks rfl) (fun E' le hat => hF1 E' (hat _ (by simp)) (hat _ (by simp))) ?_) rfl
        rintro _ _ ⟨rfl, rfl⟩
        refine Ops.u (Dtu.mv (lk rfl)) rfl ?_
        refine Ops.u (Dtu.ext (lk rfl) rfl) rfl ?_
        refine Ops.u (Dtu.ext (lk rfl) rfl) rfl ?_
        refine Ops.u (Dtu.asg (lk rfl)) rfl ?_
        refine Ops.u (Dtu.asg (lk rfl)) rfl ?_
        refine Ops.nil ?_
        refine Then.next ?_
        refine Body.seq ?_
        refine Body.seq ?_
        refine Body.region ?_
        refine Ops.u (Dtu.mv (lk rfl)) rfl ?_
        refine Ops.u (Dtu.not (lk rfl)) rfl ?_
        refine Ops.nil ?_
        refine Then.next ?_
        refine Body.condT (lk rfl) ?_
        refine Body.seq ?_
        refine Body.region ?_
        refine Ops.u (Dtu.build ty77 pl77 (lkp rfl) rfl rfl) rfl ?_
        refine Ops.e (Stp.store 3 Try.sizeOf77 (lk rfl) (lk rfl) rfl rfl rfl rfl rfl rfl rfl ?_)
        refine Ops.u (Dtu.asg (lk rfl)) rfl ?_
        refine Ops.nil ?_
        refine Then.next ?_
        refine Body.ret ?_
        refine Then.ret ?_
        exact ⟨.inr rfl, _, Loads.agg Try.isAgg77 Try.sizeOf77 (Rds.ow (m := 10) 3 rfl rfl) rfl, _, pk [] rfl, rfl, rfl⟩
      | some p =>
        rw [h1] at hF1
        dsimp only at hF1 ⊢
        obtain ⟨f1, f2, f3⟩ := findP_in h1
        have hpl : p.length ≤ 16384 := f3 ▸ hlens _ f2
        have hpb : Byt p := f3 ▸ hbyt _ f2
        have hA := fun (E' : Env) (le : Env.Le E E') (s b : Value) (ha : a.v.has E' [] s) (h : Sl E' [] 1 b p.length (p.map (.int .u8))) => apply_ok E' (View.mk a.v.rows a.v.cols a.v.cells a.v.row a.v.col a.v.vis) s b p ha h hpb (by omega) hfl
        cases h2 : applyV a.v p with
        | none =>
          rw [h2] at hA
          dsimp only at hA ⊢
          refine Ops.u (Dtu.mv (lk rfl)) rfl ?_
          refine Ops.u (Dtu.ext (lk rfl) rfl) rfl ?_
          refine Ops.u (Dtu.ext (lk rfl) rfl) rfl ?_
          refine Ops.u (Dtu.asg (lk rfl)) rfl ?_
          refine Ops.u (Dtu.asg (lk rfl)) rfl ?_
          refine Ops.nil ?_
          refine Then.next ?_
          refine Body.seq ?_
          refine Body.seq ?_
          refine Body.region ?_
          refine Ops.u (Dtu.mv (lk rfl)) rfl ?_
          refine Ops.u (Dtu.neq (lk rfl) (lk rfl)) rfl ?_
          refine Ops.u (Dtu.mv (lk rfl)) rfl ?_
          refine Ops.decP 32 rfl (fun hy => absurd hy (by first | omega | assumption | decide)) (fun _ => ?_)
          refine Ops.gd rfl rfl rfl (Det.lda Try.isAgg77 Try.sizeOf77 (lk rfl) (Rds.ow (m := 10) 3 rfl rfl) rfl) rfl ?_
          refine Ops.gs rfl rfl rfl (Stp.call rfl Try.call42 (lks rfl) (fun E' le hat => sright_ok E' ⟨⟨_, _, _, _, _, _⟩, _, _, _, _⟩ _ (Sl.mono (by assumption) le)) ?_) rfl
          rintro _ _ ⟨rfl, rfl⟩
          refine Ops.gu rfl rfl rfl (Dtu.not (lk rfl)) rfl ?_
          refine Ops.u (Dtu.pickF (lk rfl) (lk rfl)) rfl ?_
          refine Ops.nil ?_
          refine Then.next ?_
          refine Body.cond (lk rfl) (fun hn => absurd hn (by simp [hk])) (fun _ => ?_)
          refine Body.skip ?_
          refine Then.next ?_
          refine Body.seq ?_
          refine Body.region ?_
          refine Ops.d (Det.lda Try.isAgg77 Try.sizeOf77 (lk rfl) (Rds.ow (m := 10) 3 rfl rfl) rfl) rfl ?_
          refine Ops.s (Stp.alloc ty77 (fun b8 => ?_)) rfl
          refine Ops.e (Stp.store 0 Try.sizeOf77 (lk rfl) (lk rfl) rfl rfl rfl rfl rfl rfl rfl ?_)
          refine Ops.nil ?_
          refine Then.next ?_
          refine Body.seq ?_
          refine Body.region ?_
          refine Ops.u (Dtu.mv (lk rfl)) rfl ?_
          refine Ops.s (Stp.call rfl Try.call89 (lks rfl) (fun E' le hat => hF1 E' (hat _ (by simp)) (hat _ (by simp))) ?_) rfl
          rintro _ _ ⟨x1, x2, x3, rfl, rfl⟩
          refine Ops.u (Dtu.mv (lk rfl)) rfl ?_
          refine Ops.u (Dtu.ext (lk rfl) rfl) rfl ?_
          refine Ops.u (Dtu.ext (lk rfl) rfl) rfl ?_
          refine Ops.u (Dtu.asg (lk rfl)) rfl ?_
          refine Ops.u (Dtu.asg (lk rfl)) rfl ?_
          refine Ops.nil ?_
          refine Then.next ?_
          refine Body.seq ?_
          refine Body.seq ?_
          refine Body.region ?_
          refine Ops.u (Dtu.mv (lk rfl)) rfl ?_
          refine Ops.u (Dtu.not (lk rfl)) rfl ?_
          refine Ops.nil ?_
          refine Then.next ?_
          refine Body.condF (lk rfl) ?_
          refine Body.skip ?_
          refine Then.next ?_
          refine Body.seq ?_
          refine Body.seq ?_
          refine Body.region ?_
          refine Ops.u (Dtu.fld fa77_0 (lk rfl)) rfl ?_
          refine Ops.d (Det.lda Try.isAgg24 Try.sizeOf24 (lk rfl) (Rds.ow (m := 6) 5 rfl rfl) rfl) rfl ?_
          refine Ops.u (Dtu.mv (lk rfl)) rfl ?_
          refine Ops.s (Stp.call rfl Try.call20 (lks rfl) (fun E' le hat => hA E' le _ _ (Sl.mono ha le) (Sl.at (t := 5) (hat _ (by simp)))) ?_) rfl
          rintro _ _ ⟨rfl, rfl⟩
          refine Ops.u (Dtu.mv (lk rfl)) rfl ?_
          refine Ops.u (Dtu.ext (lk rfl) rfl) rfl ?_
          refine Ops.u (Dtu.ext (lk rfl) rfl) rfl ?_
          refine Ops.u (Dtu.fld fa77_0 (lk rfl)) rfl ?_
          refine Ops.e (Stp.store 1 Try.sizeOf24 (lk rfl) (lk rfl) rfl rfl rfl rfl rfl rfl rfl ?_)
          refine Ops.u (Dtu.asg (lk rfl)) rfl ?_
          refine Ops.nil ?_
          refine Then.next ?_
          refine Body.seq ?_
          refine Body.region ?_
          refine Ops.u (Dtu.mv (lk rfl)) rfl ?_
          refine Ops.u (Dtu.neq (lk rfl) (lk rfl)) rfl ?_
          refine Ops.nil ?_
          refine Then.next ?_
          refine Body.condP (lk rfl) (fun _ => ?_) (fun hn => absurd (by first | omega | assumption | decide) hn)
          refine Body.seq ?_
          refine Body.region ?_
          refine Ops.u (Dtu.build ty77 pl77 (lkp rfl) rfl rfl) rfl ?_
          refine Ops.e (Stp.store 4 Try.sizeOf77 (lk rfl) (lk rfl) rfl rfl rfl rfl rfl rfl rfl ?_)
          refine Ops.u (Dtu.asg (lk rfl)) rfl ?_
          refine Ops.nil ?_
          refine Then.next ?_
          refine Body.ret ?_
          refine Then.ret ?_
          exact ⟨.inr rfl, _, Loads.agg Try.isAgg77 Try.sizeOf77 (Rds.ow (m := 10) 4 rfl rfl) rfl, _, pk [] rfl, rfl, rfl⟩
        | some v =>
          rw [h2] at hA
          dsimp only at hA ⊢
          refine Ops.u (Dtu.mv (lk rfl)) rfl ?_
          refine Ops.u (Dtu.ext (lk rfl) rfl) rfl ?_
          refine Ops.u (Dtu.ext (lk rfl) rfl) rfl ?_
          refine Ops.u (Dtu.asg (lk rfl)) rfl ?_
          refine Ops.u (Dtu.asg (lk rfl)) rfl ?_
          refine Ops.nil ?_
          refine Then.next ?_
          refine Body.seq ?_
          refine Body.seq ?_
          refine Body.region ?_
          refine Ops.u (Dtu.mv (lk rfl)) rfl ?_
          refine Ops.u (Dtu.neq (lk rfl) (lk rfl)) rfl ?_
          refine Ops.u (Dtu.mv (lk rfl)) rfl ?_
          refine Ops.decP 32 rfl (fun hy => absurd hy (by first | omega | assumption | decide)) (fun _ => ?_)
          refine Ops.gd rfl rfl rfl (Det.lda Try.isAgg77 Try.sizeOf77 (lk rfl) (Rds.ow (m := 10) 3 rfl rfl) rfl) rfl ?_
          refine Ops.gs rfl rfl rfl (Stp.call rfl Try.call42 (lks rfl) (fun E' le hat => sright_ok E' ⟨⟨_, _, _, _, _, _⟩, _, _, _, _⟩ _ (Sl.mono (by assumption) le)) ?_) rfl
          rintro _ _ ⟨rfl, rfl⟩
          refine Ops.gu rfl rfl rfl (Dtu.not (lk rfl)) rfl ?_
          refine Ops.u (Dtu.pickF (lk rfl) (lk rfl)) rfl ?_
          refine Ops.nil ?_
          refine Then.next ?_
          refine Body.cond (lk rfl) (fun hn => absurd hn (by simp [hk])) (fun _ => ?_)
          refine Body.skip ?_
          refine Then.next ?_
          refine Body.seq ?_
          refine Body.region ?_
          refine Ops.d (Det.lda Try.isAgg77 Try.sizeOf77 (lk rfl) (Rds.ow (m := 10) 3 rfl rfl) rfl) rfl ?_
          refine Ops.s (Stp.alloc ty77 (fun b8 => ?_)) rfl
          refine Ops.e (Stp.store 0 Try.sizeOf77 (lk rfl) (lk rfl) rfl rfl rfl rfl rfl rfl rfl ?_)
          refine Ops.nil ?_
          refine Then.next ?_
          refine Body.seq ?_
          refine Body.region ?_
          refine Ops.u (Dtu.mv (lk rfl)) rfl ?_
          refine Ops.s (Stp.call rfl Try.call89 (lks rfl) (fun E' le hat => hF1 E' (hat _ (by simp)) (hat _ (by simp))) ?_) rfl
          rintro _ _ ⟨x1, x2, x3, rfl, rfl⟩
          refine Ops.u (Dtu.mv (lk rfl)) rfl ?_
          refine Ops.u (Dtu.ext (lk rfl) rfl) rfl ?_
          refine Ops.u (Dtu.ext (lk rfl) rfl) rfl ?_
          refine Ops.u (Dtu.asg (lk rfl)) rfl ?_
          refine Ops.u (Dtu.asg (lk rfl)) rfl ?_
          refine Ops.nil ?_
          refine Then.next ?_
          refine Body.seq ?_
          refine Body.seq ?_
          refine Body.region ?_
          refine Ops.u (Dtu.mv (lk rfl)) rfl ?_
          refine Ops.u (Dtu.not (lk rfl)) rfl ?_
          refine Ops.nil ?_
          refine Then.next ?_
          refine Body.condF (lk rfl) ?_
          refine Body.skip ?_
          refine Then.next ?_
          refine Body.seq ?_
          refine Body.seq ?_
          refine Body.region ?_
          refine Ops.u (Dtu.fld fa77_0 (lk rfl)) rfl ?_
          refine Ops.d (Det.lda Try.isAgg24 Try.sizeOf24 (lk rfl) (Rds.ow (m := 6) 5 rfl rfl) rfl) rfl ?_
          refine Ops.u (Dtu.mv (lk rfl)) rfl ?_
          refine Ops.s (Stp.call rfl Try.call20 (lks rfl) (fun E' le hat => hA E' le _ _ (Sl.mono ha le) (Sl.at (t := 5) (hat _ (by simp)))) ?_) rfl
          rintro _ _ ⟨y0, rfl, rfl⟩
          refine Ops.pure (Sl.isSl (Sl.osl 0 rfl)) fun hy => ?_
          obtain ⟨y1, y2, y3, rfl⟩ := hy
          refine Ops.u (Dtu.mv (lk rfl)) rfl ?_
          refine Ops.u (Dtu.ext (lk rfl) rfl) rfl ?_
          refine Ops.u (Dtu.ext (lk rfl) rfl) rfl ?_
          refine Ops.u (Dtu.fld fa77_0 (lk rfl)) rfl ?_
          refine Ops.e (Stp.store 2 Try.sizeOf24 (lk rfl) (lk rfl) rfl rfl rfl rfl rfl rfl rfl ?_)
          refine Ops.u (Dtu.asg (lk rfl)) rfl ?_
          refine Ops.nil ?_
          refine Then.next ?_
          refine Body.seq ?_
          refine Body.region ?_
          refine Ops.u (Dtu.mv (lk rfl)) rfl ?_
          refine Ops.u (Dtu.neq (lk rfl) (lk rfl)) rfl ?_
          refine Ops.nil ?_
          refine Then.next ?_
          refine Body.condP (lk rfl) (fun hy => absurd hy (by first | omega | assumption | decide)) (fun _ => ?_)
          refine Body.skip ?_
          refine Then.next ?_
          have hF2 := hF 2
          have hF3 := hF 3
          have hF4 := hF 4
          refine Body.seqJ (γ := Unit) rfl (fun _ => []) (fun _ => [osl 55 4 (.slice y1 y2 y3) v.cells.length (v.cells.flatMap Cell.enc), own b8 [.int .i64 v.rows, .int .i64 v.cols, .slice y1 y2 y3, .int .i64 v.row, .int .i64 v.col, .bool v.vis, .string (titleP rs a), .string a.clip, .int .u64 a.clips, .int .u64 a.bells] 77, osl 137 2 (.slice l1 l2 l3) L.length (L.flatMap Fld.enc), many (L.map Fld.own), own b4 [.int .i64 0, .int .i64 0, .slice none 0 0, .int .i64 0, .int .i64 0, .bool false, .string ⟨#[]⟩, .string ⟨#[]⟩, .int .u64 0, .int .u64 0] 77, own b2 (a.cells (.slice sa sm sc)) 77]) (fun _ => True) ?_ ?_
          · generalize hT : titleP rs a = T
            unfold titleP at hT
            cases h3 : findP rs 2 with
            | none =>
              rw [h3] at hF2 hT
              dsimp only at hF2 hT
              subst hT
              refine Body.seq ?_
              refine Body.region ?_
              refine Ops.u (Dtu.mv (lk rfl)) rfl ?_
              refine Ops.s (Stp.call rfl Try.call89 (lks rfl) (fun E' le hat => hF2 E' (hat _ (by simp)) (hat _ (by simp))) ?_) rfl
              rintro _ _ ⟨rfl, rfl⟩
              refine Ops.u (Dtu.mv (lk rfl)) rfl ?_
              refine Ops.u (Dtu.ext (lk rfl) rfl) rfl ?_
              refine Ops.u (Dtu.ext (lk rfl) rfl) rfl ?_
              refine Ops.u (Dtu.asg (lk rfl)) rfl ?_
              refine Ops.u (Dtu.asg (lk rfl)) rfl ?_
              refine Ops.nil ?_
              refine Then.next ?_
              refine Body.seq ?_
              refine Body.region ?_
              refine Ops.u (Dtu.mv (lk rfl)) rfl ?_
              refine Ops.nil ?_
              refine Then.next ?_
              refine Body.condF (lk rfl) ?_
              refine Body.skip ?_
              exact Joint.goK [0, 1, 1, 1, 1, 1] () rfl rfl rfl trivial rfl rfl trivial
            | some d =>
              rw [h3] at hF2 hT
              dsimp only at hF2 hT
              subst hT
              refine Body.seq ?_
              refine Body.region ?_
              refine Ops.u (Dtu.mv (lk rfl)) rfl ?_
              refine Ops.s (Stp.call rfl Try.call89 (lks rfl) (fun E' le hat => hF2 E' (hat _ (by simp)) (hat _ (by simp))) ?_) rfl
              rintro _ _ ⟨w1, w2, w3, rfl, rfl⟩
              refine Ops.u (Dtu.mv (lk rfl)) rfl ?_
              refine Ops.u (Dtu.ext (lk rfl) rfl) rfl ?_
              refine Ops.u (Dtu.ext (lk rfl) rfl) rfl ?_
              refine Ops.u (Dtu.asg (lk rfl)) rfl ?_
              refine Ops.u (Dtu.asg (lk rfl)) rfl ?_
              refine Ops.nil ?_
              refine Then.next ?_
              refine Body.seq ?_
              refine Body.region ?_
              refine Ops.u (Dtu.mv (lk rfl)) rfl ?_
              refine Ops.nil ?_
              refine Then.next ?_
              refine Body.condT (lk rfl) ?_
              refine Body.region ?_
              refine Ops.u (Dtu.mv (lk rfl)) rfl ?_
              refine Ops.d (Det.bstr Try.underlying32 Try.underlying5 Try.underlying9 (lk rfl) (Sl.osl 0 rfl)) rfl ?_
              refine Ops.u (Dtu.fld fa77_1 (lk rfl)) rfl ?_
              refine Ops.e (Stp.store 3 Try.sizeOf9 (lk rfl) (lk rfl) rfl rfl rfl rfl rfl rfl rfl ?_)
              refine Ops.nil ?_
              exact Joint.goK [1, 2, 2, 2, 2, 2] () rfl rfl rfl trivial rfl rfl trivial
          · rintro ⟨⟩ u _
            generalize hT : titleP rs a = T
            refine Body.seqJ (γ := Int × ByteArray) rfl (fun _ => []) (fun g => [osl 55 4 (.slice y1 y2 y3) v.cells.length (v.cells.flatMap Cell.enc), own b8 [.int .i64 v.rows, .int .i64 v.cols, .slice y1 y2 y3, .int .i64 v.row, .int .i64 v.col, .bool v.vis, .string T, .string g.2, .int .u64 g.1, .int .u64 a.bells] 77, osl 137 2 (.slice l1 l2 l3) L.length (L.flatMap Fld.enc), many (L.map Fld.own), own b4 [.int .i64 0, .int .i64 0, .slice none 0 0, .int .i64 0, .int .i64 0, .bool false, .string ⟨#[]⟩, .string ⟨#[]⟩, .int .u64 0, .int .u64 0] 77, own b2 (a.cells (.slice sa sm sc)) 77]) (fun g => clipP rs a = some g ∧ 0 ≤ g.1) ?_ ?_
            · cases h4 : findP rs 3 with
              | none =>
                have hC : clipP rs a = some (a.clips, a.clip) := by unfold clipP; rw [h4]
                rw [h4] at hF3
                dsimp only at hF3
                refine Body.seq ?_
                refine Body.region ?_
                refine Ops.u (Dtu.mv (lk rfl)) rfl ?_
                refine Ops.s (Stp.call rfl Try.call89 (lks rfl) (fun E' le hat => hF3 E' (hat _ (by simp)) (hat _ (by simp))) ?_) rfl
                rintro _ _ ⟨rfl, rfl⟩
                refine Ops.u (Dtu.mv (lk rfl)) rfl ?_
                refine Ops.u (Dtu.ext (lk rfl) rfl) rfl ?_
                refine Ops.u (Dtu.ext (lk rfl) rfl) rfl ?_
                refine Ops.u (Dtu.asg (lk rfl)) rfl ?_
                refine Ops.u (Dtu.asg (lk rfl)) rfl ?_
                refine Ops.nil ?_
                refine Then.next ?_
                refine Body.seq ?_
                refine Body.region ?_
                refine Ops.u (Dtu.mv (lk rfl)) rfl ?_
                refine Ops.nil ?_
                refine Then.next ?_
                refine Body.condF (lk rfl) ?_
                refine Body.skip ?_
                exact Joint.goK [0, 0, 0, 0, 0, 0] (a.clips, a.clip) rfl rfl rfl trivial rfl rfl ⟨hC, hc⟩
              | some d =>
                have hC : clipP rs a = if (getS d 0).2.2 ≠ 0 then none else some ((getS d 0).1, strOfNums (d.drop (getS d 0).2.1.toNat)) := by unfold clipP; rw [h4]
                obtain ⟨f4, f5, f6⟩ := findP_in h4
                have hdl : d.length ≤ 16384 := f6 ▸ hlens _ f5
                have hdb : Byt d := f6 ▸ hbyt _ f5
                have g1 := getS_bound d hdb 0
                have g2 := getS_next d 0
                rw [h4] at hF3
                dsimp only at hF3
                refine Body.seq ?_
                refine Body.region ?_
                refine Ops.u (Dtu.mv (lk rfl)) rfl ?_
                refine Ops.s (Stp.call rfl Try.call89 (lks rfl) (fun E' le hat => hF3 E' (hat _ (by simp)) (hat _ (by simp))) ?_) rfl
                rintro _ _ ⟨w1, w2, w3, rfl, rfl⟩
                refine Ops.u (Dtu.mv (lk rfl)) rfl ?_
                refine Ops.u (Dtu.ext (lk rfl) rfl) rfl ?_
                refine Ops.u (Dtu.ext (lk rfl) rfl) rfl ?_
                refine Ops.u (Dtu.asg (lk rfl)) rfl ?_
                refine Ops.u (Dtu.asg (lk rfl)) rfl ?_
                refine Ops.nil ?_
                refine Then.next ?_
                refine Body.seq ?_
                refine Body.region ?_
                refine Ops.u (Dtu.mv (lk rfl)) rfl ?_
                refine Ops.nil ?_
                refine Then.next ?_
                refine Body.condT (lk rfl) ?_
                refine Body.seq ?_
                refine Body.region ?_
                refine Ops.u (Dtu.mv (lk rfl)) rfl ?_
                refine Ops.s (Stp.call rfl Try.call74 (lks rfl) (fun E' le hat => get_ok E' (.slice w1 w2 w3) d 0 (Sl.at (t := 5) (hat _ (by simp))) hdb) ?_) rfl
                rintro _ _ ⟨rfl, rfl⟩
                refine Ops.u (Dtu.mv (lk rfl)) rfl ?_
                refine Ops.u (Dtu.ext (lk rfl) rfl) rfl ?_
                refine Ops.u (Dtu.ext (lk rfl) rfl) rfl ?_
                refine Ops.u (Dtu.ext (lk rfl) rfl) rfl ?_
                refine Ops.u (Dtu.asg (lk rfl)) rfl ?_
                refine Ops.u (Dtu.asg (lk rfl)) rfl ?_
                refine Ops.u (Dtu.asg (lk rfl)) rfl ?_
                refine Ops.nil ?_
                refine Then.next ?_
                refine Body.seq ?_
                refine Body.seq ?_
                refine Body.region ?_
                refine Ops.u (Dtu.mv (lk rfl)) rfl ?_
                refine Ops.u (Dtu.neq (lk rfl) (lk rfl)) rfl ?_
                refine Ops.nil ?_
                refine Then.next ?_
                refine Body.condP (lk rfl) (fun c80 => ?_) (fun c80 => ?_)
                · rw [if_pos (by assumption)] at hC
                  rw [hC]
                  refine Body.seq ?_
                  refine Body.region ?_
                  refine Ops.u (Dtu.build ty77 pl77 (lkp rfl) rfl rfl) rfl ?_
                  refine Ops.e (Stp.store 5 Try.sizeOf77 (lk rfl) (lk rfl) rfl rfl rfl rfl rfl rfl rfl ?_)
                  refine Ops.u (Dtu.asg (lk rfl)) rfl ?_
                  refine Ops.nil ?_
                  refine Then.next ?_
                  refine Body.ret ?_
                  refine Then.ret ?_
                  refine Joint.ret ?_
                  exact ⟨.inr rfl, _, Loads.agg Try.isAgg77 Try.sizeOf77 (Rds.ow (m := 10) 5 rfl rfl) rfl, _, pk [] rfl, rfl, rfl⟩
                · rw [if_neg (by assumption)] at hC
                  have g3 := g2 (by omega)
                  obtain ⟨q, hq⟩ := Int.eq_ofNat_of_zero_le (show 0 ≤ (getS d 0).2.1 by omega)
                  rw [hq, Int.toNat_natCast] at hC
                  rw [hq]
                  have hql : q ≤ d.length := by omega
                  rw [← List.take_of_length_le (show (d.drop q).length ≤ d.length - q by simp)] at hC
                  refine Body.skip ?_
                  refine Then.next ?_
                  refine Body.drawW mixed ?_
                  refine AW.u 0 rfl (by decide +kernel) (Dtu.mv (lk rfl)) rfl ?_
                  refine AW.u 1 rfl (by decide +kernel) (Dtu.mv (lk rfl)) rfl ?_
                  refine AW.u 2 rfl (by decide +kernel) (Dtu.mv (lk rfl)) rfl ?_
                  refine AW.u 3 rfl (by decide +kernel) (Dtu.slL (q) Try.underlying32 Try.sizeOf5 (Sl.osl 0 rfl) (lk rfl) (lk rfl) (by omega) (by omega)) rfl ?_
                  refine AW.u 5 rfl (by decide +kernel) (Dtu.fld fa77_3 (lk rfl)) rfl ?_
                  refine AW.more [4, 6] (by decide +kernel) rfl ⟨?_, ?_, trivial⟩
                  · refine AWI.d rfl (Det.bstr Try.underlying32 Try.underlying5 Try.underlying9 (lk rfl) (Sl.subM (Sl.osl 0 rfl) _ _ (by omega) (by omega))) rfl ?_
                    refine AW.more [6] (by decide +kernel) rfl ⟨?_, trivial⟩
                    refine AWI.e rfl (Stp.store 2 Try.sizeOf75 (lk rfl) (lk rfl) rfl rfl rfl rfl rfl rfl rfl ?_)
                    refine AW.u 7 rfl (by decide +kernel) (Dtu.fld fa77_2 (lk rfl)) rfl ?_
                    refine AW.more [8] (by decide +kernel) rfl ⟨?_, trivial⟩
                    refine AWI.e rfl (Stp.store 2 Try.sizeOf9 (lk rfl) (lk rfl) rfl rfl rfl rfl rfl rfl rfl ?_)
                    refine AW.done (by decide +kernel) ?_
                    exact Joint.goK [1, 1, 1, 1, 1, 1] ((getS d 0).1, strOfNums ((d.drop q).take (d.length - q))) rfl rfl rfl trivial rfl rfl ⟨hC, g1.1⟩
                  · refine AWI.e rfl (Stp.store 2 Try.sizeOf75 (lk rfl) (lk rfl) rfl rfl rfl rfl rfl rfl rfl ?_)
                    refine AW.more [4] (by decide +kernel) rfl ⟨?_, trivial⟩
                    refine AWI.d rfl (Det.bstr Try.underlying32 Try.underlying5 Try.underlying9 (lk rfl) (Sl.subM (Sl.osl 0 rfl) _ _ (by omega) (by omega))) rfl ?_
                    refine AW.u 7 rfl (by decide +kernel) (Dtu.fld fa77_2 (lk rfl)) rfl ?_
                    refine AW.more [8] (by decide +kernel) rfl ⟨?_, trivial⟩
                    refine AWI.e rfl (Stp.store 2 Try.sizeOf9 (lk rfl) (lk rfl) rfl rfl rfl rfl rfl rfl rfl ?_)
                    refine AW.done (by decide +kernel) ?_
                    exact Joint.goK [1, 1, 1, 1, 1, 1] ((getS d 0).1, strOfNums ((d.drop q).take (d.length - q))) rfl rfl rfl trivial rfl rfl ⟨hC, g1.1⟩
            · rintro ⟨n, c⟩ u2 ⟨hC, hn⟩
              dsimp only at hn ⊢
              rw [hC]
              refine Body.seqJ (γ := Int) rfl (fun _ => []) (fun g => [osl 55 4 (.slice y1 y2 y3) v.cells.length (v.cells.flatMap Cell.enc), own b8 [.int .i64 v.rows, .int .i64 v.cols, .slice y1 y2 y3, .int .i64 v.row, .int .i64 v.col, .bool v.vis, .string T, .string c, .int .u64 n, .int .u64 g] 77, osl 137 2 (.slice l1 l2 l3) L.length (L.flatMap Fld.enc), many (L.map Fld.own), own b4 [.int .i64 0, .int .i64 0, .slice none 0 0, .int .i64 0, .int .i64 0, .bool false, .string ⟨#[]⟩, .string ⟨#[]⟩, .int .u64 0, .int .u64 0] 77, own b2 (a.cells (.slice sa sm sc)) 77]) (fun g => bellsP rs a = some g ∧ 0 ≤ g) ?_ ?_
              · cases h5 : findP rs 4 with
                | none =>
                  have hB : bellsP rs a = some a.bells := by unfold bellsP; rw [h5]
                  rw [h5] at hF4
                  dsimp only at hF4
                  refine Body.seq ?_
                  refine Body.region ?_
                  refine Ops.u (Dtu.mv (lk rfl)) rfl ?_
                  refine Ops.s (Stp.call rfl Try.call89 (lks rfl) (fun E' le hat => hF4 E' (hat _ (by simp)) (hat _ (by simp))) ?_) rfl
                  rintro _ _ ⟨rfl, rfl⟩
                  refine Ops.u (Dtu.mv (lk rfl)) rfl ?_
                  refine Ops.u (Dtu.ext (lk rfl) rfl) rfl ?_
                  refine Ops.u (Dtu.ext (lk rfl) rfl) rfl ?_
                  refine Ops.u (Dtu.asg (lk rfl)) rfl ?_
                  refine Ops.u (Dtu.asg (lk rfl)) rfl ?_
                  refine Ops.nil ?_
                  refine Then.next ?_
                  refine Body.seq ?_
                  refine Body.region ?_
                  refine Ops.u (Dtu.mv (lk rfl)) rfl ?_
                  refine Ops.nil ?_
                  refine Then.next ?_
                  refine Body.condF (lk rfl) ?_
                  refine Body.skip ?_
                  exact Joint.goK [0, 0, 0, 0, 0, 0] a.bells rfl rfl rfl trivial rfl rfl ⟨hB, hbe⟩
                | some d =>
                  have hB : bellsP rs a = if (getS d 0).2.2 ≠ 0 then none else some (getS d 0).1 := by unfold bellsP; rw [h5]
                  obtain ⟨f4, f5, f6⟩ := findP_in h5
                  have hdl : d.length ≤ 16384 := f6 ▸ hlens _ f5
                  have hdb : Byt d := f6 ▸ hbyt _ f5
                  have g1 := getS_bound d hdb 0
                  rw [h5] at hF4
                  dsimp only at hF4
                  refine Body.seq ?_
                  refine Body.region ?_
                  refine Ops.u (Dtu.mv (lk rfl)) rfl ?_
                  refine Ops.s (Stp.call rfl Try.call89 (lks rfl) (fun E' le hat => hF4 E' (hat _ (by simp)) (hat _ (by simp))) ?_) rfl
                  rintro _ _ ⟨w1, w2, w3, rfl, rfl⟩
                  refine Ops.u (Dtu.mv (lk rfl)) rfl ?_
                  refine Ops.u (Dtu.ext (lk rfl) rfl) rfl ?_
                  refine Ops.u (Dtu.ext (lk rfl) rfl) rfl ?_
                  refine Ops.u (Dtu.asg (lk rfl)) rfl ?_
                  refine Ops.u (Dtu.asg (lk rfl)) rfl ?_
                  refine Ops.nil ?_
                  refine Then.next ?_
                  refine Body.seq ?_
                  refine Body.region ?_
                  refine Ops.u (Dtu.mv (lk rfl)) rfl ?_
                  refine Ops.nil ?_
                  refine Then.next ?_
                  refine Body.condT (lk rfl) ?_
                  refine Body.seq ?_
                  refine Body.region ?_
                  refine Ops.u (Dtu.mv (lk rfl)) rfl ?_
                  refine Ops.s (Stp.call rfl Try.call74 (lks rfl) (fun E' le hat => get_ok E' (.slice w1 w2 w3) d 0 (Sl.at (t := 5) (hat _ (by simp))) hdb) ?_) rfl
                  rintro _ _ ⟨rfl, rfl⟩
                  refine Ops.u (Dtu.mv (lk rfl)) rfl ?_
                  refine Ops.u (Dtu.ext (lk rfl) rfl) rfl ?_
                  refine Ops.u (Dtu.ext (lk rfl) rfl) rfl ?_
                  refine Ops.u (Dtu.ext (lk rfl) rfl) rfl ?_
                  refine Ops.u (Dtu.asg (lk rfl)) rfl ?_
                  refine Ops.u (Dtu.asg (lk rfl)) rfl ?_
                  refine Ops.u (Dtu.asg (lk rfl)) rfl ?_
                  refine Ops.nil ?_
                  refine Then.next ?_
                  refine Body.seq ?_
                  refine Body.seq ?_
                  refine Body.region ?_
                  refine Ops.u (Dtu.mv (lk rfl)) rfl ?_
                  refine Ops.u (Dtu.neq (lk rfl) (lk rfl)) rfl ?_
                  refine Ops.nil ?_
                  refine Then.next ?_
                  refine Body.condP (lk rfl) (fun c102 => ?_) (fun c102 => ?_)
                  · rw [if_pos (by assumption)] at hB
                    rw [hB]
                    refine Body.seq ?_
                    refine Body.region ?_
                    refine Ops.u (Dtu.build ty77 pl77 (lkp rfl) rfl rfl) rfl ?_
                    refine Ops.e (Stp.store 5 Try.sizeOf77 (lk rfl) (lk rfl) rfl rfl rfl rfl rfl rfl rfl ?_)
                    refine Ops.u (Dtu.asg (lk rfl)) rfl ?_
                    refine Ops.nil ?_
                    refine Then.next ?_
                    refine Body.ret ?_
                    refine Then.ret ?_
                    refine Joint.ret ?_
                    exact ⟨.inr rfl, _, Loads.agg Try.isAgg77 Try.sizeOf77 (Rds.ow (m := 10) 5 rfl rfl) rfl, _, pk [] rfl, rfl, rfl⟩
                  · rw [if_neg (by assumption)] at hB
                    refine Body.skip ?_
                    refine Then.next ?_
                    refine Body.region ?_
                    refine Ops.u (Dtu.mv (lk rfl)) rfl ?_
                    refine Ops.u (Dtu.fld fa77_4 (lk rfl)) rfl ?_
                    refine Ops.e (Stp.store 2 Try.sizeOf75 (lk rfl) (lk rfl) rfl rfl rfl rfl rfl rfl rfl ?_)
                    refine Ops.nil ?_
                    exact Joint.goK [1, 1, 1, 1, 1, 1] (getS d 0).1 rfl rfl rfl trivial rfl rfl ⟨hB, g1.1⟩
              · rintro m u3 ⟨hB, hm⟩
                dsimp only at hm ⊢
                rw [hB]
                dsimp only
                have hvf := applyV_fl hpb hfl h2
                have hcv : 0 ≤ (Stt.mk v T c n m).clips := hn
                have hmv : 0 ≤ (Stt.mk v T c n m).bells := hm
                unfold sfinP
                cases hkb : (Stt.mk v T c n m).ok with
                | false =>
                  rw [if_neg (by simp)]
                  refine Body.seq ?_
                  refine Body.seq ?_
                  refine Body.region ?_
                  refine Ops.d (Det.lda Try.isAgg77 Try.sizeOf77 (lk rfl) (Rds.ow (m := 10) 5 rfl rfl) rfl) rfl ?_
                  refine Ops.d (Det.lda Try.isAgg77 Try.sizeOf77 (lk rfl) (Rds.ow (m := 10) 1 rfl rfl) rfl) rfl ?_
                  refine Ops.s (Stp.call rfl Try.call41 (lks rfl) (fun E' le hat => sdiff_no E' a ⟨v, T, c, n, m⟩ (.slice sa sm sc) (.slice y1 y2 y3) (Sl.mono ha le) (Sl.at (t := 55) (hat _ (by simp))) (by rw [hkb]; simp)) ?_) rfl
                  rintro _ _ ⟨rfl, rfl⟩
                  refine Ops.u (Dtu.mv (lk rfl)) rfl ?_
                  refine Ops.u (Dtu.ext (lk rfl) rfl) rfl ?_
                  refine Ops.u (Dtu.ext (lk rfl) rfl) rfl ?_
                  refine Ops.u (Dtu.asg (lk rfl)) rfl ?_
                  refine Ops.u (Dtu.asg (lk rfl)) rfl ?_
                  refine Ops.nil ?_
                  refine Then.next ?_
                  refine Body.seq ?_
                  refine Body.region ?_
                  refine Ops.u (Dtu.mv (lk rfl)) rfl ?_
                  refine Ops.u (Dtu.neq (lk rfl) (lk rfl)) rfl ?_
                  refine Ops.u (Dtu.mv (lk rfl)) rfl ?_
                  refine Ops.decP 114 rfl (fun _ => ?_) (fun hn => absurd (by first | omega | assumption | decide) hn)
                  refine Ops.gn rfl rfl rfl rfl rfl ?_
                  refine Ops.gn rfl rfl rfl rfl rfl ?_
                  refine Ops.gn rfl rfl rfl rfl rfl ?_
                  refine Ops.gn rfl rfl rfl rfl rfl ?_
                  refine Ops.u (Dtu.pickT (lk rfl) (lk rfl)) rfl ?_
                  refine Ops.nil ?_
                  refine Then.next ?_
                  refine Body.condT (lk rfl) ?_
                  refine Body.seq ?_
                  refine Body.region ?_
                  refine Ops.u (Dtu.build ty77 pl77 (lkp rfl) rfl rfl) rfl ?_
                  refine Ops.e (Stp.store 4 Try.sizeOf77 (lk rfl) (lk rfl) rfl rfl rfl rfl rfl rfl rfl ?_)
                  refine Ops.u (Dtu.asg (lk rfl)) rfl ?_
                  refine Ops.nil ?_
                  refine Then.next ?_
                  refine Body.ret ?_
                  refine Then.ret ?_
                  exact ⟨.inr rfl, _, Loads.agg Try.isAgg77 Try.sizeOf77 (Rds.ow (m := 10) 4 rfl rfl) rfl, _, pk [] rfl, rfl, rfl⟩
                | true =>
                  have hbt := sdifB_byt (a := a) hk hkb hvf hcv hmv
                  refine Body.seq ?_
                  refine Body.seq ?_
                  refine Body.region ?_
                  refine Ops.d (Det.lda Try.isAgg77 Try.sizeOf77 (lk rfl) (Rds.ow (m := 10) 5 rfl rfl) rfl) rfl ?_
                  refine Ops.d (Det.lda Try.isAgg77 Try.sizeOf77 (lk rfl) (Rds.ow (m := 10) 1 rfl rfl) rfl) rfl ?_
                  refine Ops.s (Stp.call rfl Try.call41 (lks rfl) (fun E' le hat => sdiff_ok E' a ⟨v, T, c, n, m⟩ (.slice sa sm sc) (.slice y1 y2 y3) (Sl.mono ha le) (Sl.at (t := 55) (hat _ (by simp))) hk hkb hcv hmv) ?_) rfl
                  rintro _ _ ⟨s107, rfl, rfl⟩
                  refine Ops.u (Dtu.mv (lk rfl)) rfl ?_
                  refine Ops.u (Dtu.ext (lk rfl) rfl) rfl ?_
                  refine Ops.u (Dtu.ext (lk rfl) rfl) rfl ?_
                  refine Ops.u (Dtu.asg (lk rfl)) rfl ?_
                  refine Ops.u (Dtu.asg (lk rfl)) rfl ?_
                  refine Ops.nil ?_
                  refine Then.next ?_
                  refine Body.seq ?_
                  refine Body.region ?_
                  refine Ops.u (Dtu.mv (lk rfl)) rfl ?_
                  refine Ops.u (Dtu.neq (lk rfl) (lk rfl)) rfl ?_
                  refine Ops.u (Dtu.mv (lk rfl)) rfl ?_
                  refine Ops.decP 114 rfl (fun hy => absurd hy (by first | omega | assumption | decide)) (fun _ => ?_)
                  refine Ops.gu rfl rfl rfl (Dtu.mv (lk rfl)) rfl ?_
                  refine Ops.gu rfl rfl rfl (Dtu.mv (lk rfl)) rfl ?_
                  refine Ops.gs rfl rfl rfl (Stp.call rfl Try.call65 (lks rfl) (fun E' le hat => bytesEqual_ok E' _ _ _ _ (by first | exact Sl.mono (by assumption) le | exact Sl.at (hat _ (.head _)) | exact Sl.at (hat _ (.tail _ (.head _))) | exact Sl.at (hat _ (.tail _ (.tail _ (.head _)))) | exact Sl.at (hat _ (.tail _ (.tail _ (.tail _ (.head _))))) | exact Sl.at (hat _ (.tail _ (.tail _ (.tail _ (.tail _ (.head _)))))) | exact Sl.at (hat _ (.tail _ (.tail _ (.tail _ (.tail _ (.tail _ (.head _)))))))) (by first | exact Sl.mono (by assumption) le | exact Sl.at (hat _ (.head _)) | exact Sl.at (hat _ (.tail _ (.head _))) | exact Sl.at (hat _ (.tail _ (.tail _ (.head _)))) | exact Sl.at (hat _ (.tail _ (.tail _ (.tail _ (.head _))))) | exact Sl.at (hat _ (.tail _ (.tail _ (.tail _ (.tail _ (.head _)))))) | exact Sl.at (hat _ (.tail _ (.tail _ (.tail _ (.tail _ (.tail _ (.head _)))))))) (by assumption) (by assumption)) ?_) rfl
                  rintro _ _ ⟨rfl, rfl⟩
                  refine Ops.gu rfl rfl rfl (Dtu.notP (lk rfl)) rfl ?_
                  refine Ops.u (Dtu.pickF (lk rfl) (lk rfl)) rfl ?_
                  refine Ops.nil ?_
                  refine Then.next ?_
                  refine Body.condP (lk rfl) (fun c119 => ?_) (fun c119 => ?_)
                  · rw [if_neg (fun h => c119 h.2)]
                    refine Body.seq ?_
                    refine Body.region ?_
                    refine Ops.u (Dtu.build ty77 pl77 (lkp rfl) rfl rfl) rfl ?_
                    refine Ops.e (Stp.store 5 Try.sizeOf77 (lk rfl) (lk rfl) rfl rfl rfl rfl rfl rfl rfl ?_)
                    refine Ops.u (Dtu.asg (lk rfl)) rfl ?_
                    refine Ops.nil ?_
                    refine Then.next ?_
                    refine Body.ret ?_
                    refine Then.ret ?_
                    exact ⟨.inr rfl, _, Loads.agg Try.isAgg77 Try.sizeOf77 (Rds.ow (m := 10) 5 rfl rfl) rfl, _, pk [] rfl, rfl, rfl⟩
                  · rw [if_pos ⟨rfl, Decidable.of_not_not c119⟩]
                    refine Body.skip ?_
                    refine Then.next ?_
                    refine Body.seq ?_
                    refine Body.region ?_
                    refine Ops.d (Det.lda Try.isAgg77 Try.sizeOf77 (lk rfl) (Rds.ow (m := 10) 2 rfl rfl) rfl) rfl ?_
                    refine Ops.e (Stp.store 5 Try.sizeOf77 (lk rfl) (lk rfl) rfl rfl rfl rfl rfl rfl rfl ?_)
                    refine Ops.u (Dtu.asg (lk rfl)) rfl ?_
                    refine Ops.nil ?_
                    refine Then.next ?_
                    refine Body.ret ?_
                    exact ⟨.inr rfl, _, Loads.agg Try.isAgg77 Try.sizeOf77 (Rds.ow (m := 10) 5 rfl rfl) rfl, _, pk [1] rfl, .slice y1 y2 y3, rfl, rfl⟩
end Go.Proofs.Ytijjjdljdjnbaaa
end
section
/- States: a change's bytes have its fields; a change makes b of a. -/
namespace Go.Proofs.Ytijjjdljdjnbaaa
set_option maxRecDepth 100000
set_option linter.unusedVariables false
set_option linter.unusedSimpArgs false
open Go.Sx

theorem ba_ext {a b : ByteArray} (h : a.toList = b.toList) : a = b := by
  rw [ByteArray.toList_eq, ByteArray.toList_eq] at h
  exact ByteArray.ext (Array.toList_inj.mp h)
theorem strOfNums_numsOf (s : ByteArray) : strOfNums (numsOf s) = s := by
  apply ba_ext
  rw [ByteArray.toList_eq, ByteArray.toList_eq]
  simp [strOfNums, numsOf, Function.comp_def]
theorem readFs_flat : ∀ (l : List TF) (k : Nat) (fs : List TF) (pre : List Int), (∀ f ∈ l, f.2.length ≤ 16384) → l.length < k → fs.length + l.length ≤ 128 →
    readFs (pre ++ l.flatMap fun x => fldB x.1 x.2) k fs pre.length = .inr (fs ++ l)
  | [], k, fs, pre, _, hk, _ => by
    obtain ⟨k, rfl⟩ : ∃ k', k = k' + 1 := ⟨k - 1, by simp at hk; omega⟩
    rw [readFs, if_neg (by simp)]
    simp
  | (t, d) :: l, k, fs, pre, hl, hk, hn => by
    obtain ⟨k, rfl⟩ : ∃ k', k = k' + 1 := ⟨k - 1, by simp at hk; omega⟩
    have hd : d.length ≤ 16384 := hl (t, d) (by simp)
    simp only [List.length_cons] at hk hn
    have e0 : (pre ++ ((t, d) :: l).flatMap fun x => fldB x.1 x.2) = (pre ++ [t]) ++ (putL (d.length : Int) ++ (d ++ l.flatMap fun x => fldB x.1 x.2)) := by
      simp [fldB]
    have e1 : getS (pre ++ ((t, d) :: l).flatMap fun x => fldB x.1 x.2) (pre.length + 1) = ((d.length : Int), (pre.length : Int) + 1 + sizeS d.length, 0) := by
      rw [e0]
      have := getS_put (pre ++ [t]) (d ++ l.flatMap fun x => fldB x.1 x.2) (v := (d.length : Int)) (by omega) (by omega)
      simpa using this
    have hz := sizeS_pos (v := (d.length : Int)) (by omega)
    rw [readFs, e1]
    dsimp only
    rw [if_pos (by simp [fldB]), if_neg (by omega), if_neg (by simp), if_neg (by omega), if_neg (by simp [fldB, putL_len]; omega)]
    have e2 : ((pre.length : Int) + 1 + (sizeS (d.length : Int) : Int)).toNat = pre.length + 1 + sizeS (d.length : Int) := by omega
    rw [e2, Int.toNat_natCast]
    have e3 : (pre ++ ((t, d) :: l).flatMap fun x => fldB x.1 x.2)[pre.length]! = t := by
      rw [e0, getElem!_pos _ _ (by simp), List.getElem_append_left (by simp)]; simp
    have e4 : ((pre ++ ((t, d) :: l).flatMap fun x => fldB x.1 x.2).drop (pre.length + 1 + sizeS (d.length : Int))).take d.length = d := by
      rw [e0, ← List.append_assoc, show pre.length + 1 + sizeS (d.length : Int) = ((pre ++ [t]) ++ putL (d.length : Int)).length by simp [putL_len]; omega, List.drop_left, List.take_left]
    rw [e3, e4]
    have e5 : (pre ++ ((t, d) :: l).flatMap fun x => fldB x.1 x.2) = (pre ++ fldB t d) ++ l.flatMap fun x => fldB x.1 x.2 := by simp
    have e6 : pre.length + 1 + sizeS (d.length : Int) + d.length = (pre ++ fldB t d).length := by simp [fldB, putL_len]; omega
    rw [e5, e6, readFs_flat l k (fs ++ [(t, d)]) (pre ++ fldB t d) (fun f hf => hl f (by simp [hf])) (by omega) (by simp; omega)]
    simp
theorem sdifL_short (a b : Stt) : (sdifL a b).length ≤ 4 := by
  simp only [sdifL, List.length_append]
  (repeat' split) <;> simp
theorem sdifL_lens {a b : Stt} (ka : a.ok = true) (kb : b.ok = true) : ∀ f ∈ sdifL a b, f.2.length ≤ 8165 := by
  obtain ⟨kav, _⟩ := Stt.ok_fits ka
  obtain ⟨kbv, t1, t2, t3, t4⟩ := Stt.ok_fits kb
  have hz1 := sizeS_le b.clips
  have hz2 := sizeS_le b.bells
  have hd := difB_most kav kbv
  intro f hf
  rcases sdifL_mem hf with rfl | rfl | rfl | rfl
  · exact hd
  · dsimp only; rw [numsOf_len]; omega
  · dsimp only; rw [List.length_append, numsOf_len, putL_len]; omega
  · dsimp only; rw [putL_len]; omega
theorem flat_ge : ∀ (l : List TF), l.length ≤ (l.flatMap fun x => fldB x.1 x.2).length
  | [] => by simp
  | (t, d) :: l => by 
    have := flat_ge l
    have h1 : 1 ≤ (fldB t d).length := by simp [fldB]
    rw [List.flatMap_cons, List.length_append, List.length_cons]
    dsimp only
    omega
theorem fieldsP_dif {a b : Stt} (ka : a.ok = true) (kb : b.ok = true) : fieldsP (sdifB a b) = .inr (sdifL a b) := by
  have h1 := sdifL_lens ka kb
  have h2 := sdifL_short a b
  have h3 := flat_ge (sdifL a b)
  have := readFs_flat (sdifL a b) ((sdifB a b).length + 1) [] [] (fun f hf => by have := h1 f hf; omega) (Nat.lt_succ_of_le h3) (by simp; omega)
  simpa [fieldsP, sdifB] using this
theorem findP_1 (a b : Stt) : findP (sdifL a b) 1 = some (difB a.v b.v) := by simp [findP, sdifL]
theorem findP_2 (a b : Stt) : findP (sdifL a b) 2 = if a.title.toList ≠ b.title.toList then some (numsOf b.title) else none := by
  unfold findP sdifL
  by_cases h1 : a.title.toList = b.title.toList <;> by_cases h2 : a.clip.toList = b.clip.toList ∧ a.clips = b.clips <;> by_cases h3 : a.bells = b.bells <;> simp [h1, h2, h3]
theorem findP_3 (a b : Stt) : findP (sdifL a b) 3 = if ¬ (a.clip.toList = b.clip.toList ∧ a.clips = b.clips) then some (putL b.clips ++ numsOf b.clip) else none := by
  unfold findP sdifL
  by_cases h1 : a.title.toList = b.title.toList <;> by_cases h2 : a.clip.toList = b.clip.toList ∧ a.clips = b.clips <;> by_cases h3 : a.bells = b.bells <;> simp [h1, h2, h3]
theorem findP_4 (a b : Stt) : findP (sdifL a b) 4 = if a.bells ≠ b.bells then some (putL b.bells) else none := by
  unfold findP sdifL
  by_cases h1 : a.title.toList = b.title.toList <;> by_cases h2 : a.clip.toList = b.clip.toList ∧ a.clips = b.clips <;> by_cases h3 : a.bells = b.bells <;> simp [h1, h2, h3]
theorem getS_0 {v : Int} (r : List Int) (h0 : 0 ≤ v) (h1 : v < 4611686018427387904) : getS (putL v ++ r) 0 = (v, (sizeS v : Int), 0) := by
  have := getS_put [] r h0 h1
  simpa using this
theorem titleP_dif (a b : Stt) : titleP (sdifL a b) a = b.title := by
  unfold titleP
  rw [findP_2]
  by_cases h : a.title.toList = b.title.toList
  · simp only [h, ne_eq, not_true_eq_false, if_false]; exact ba_ext h
  · simp only [ne_eq, h, not_false_eq_true, if_true]; exact strOfNums_numsOf _
theorem clipP_dif {a b : Stt} (h0 : 0 ≤ b.clips) (h1 : b.clips ≤ 4611686018427387903) : clipP (sdifL a b) a = some (b.clips, b.clip) := by
  unfold clipP
  rw [findP_3]
  by_cases h : a.clip.toList = b.clip.toList ∧ a.clips = b.clips
  · rw [if_neg (by simp [h])]; simp only [h.2, ba_ext h.1]
  · rw [if_pos h]
    dsimp only
    rw [getS_0 _ h0 (by omega)]
    simp only [ne_eq, not_true_eq_false, if_false, Int.toNat_natCast]
    rw [← putL_len, List.drop_left, strOfNums_numsOf]
theorem bellsP_dif {a b : Stt} (h0 : 0 ≤ b.bells) (h1 : b.bells ≤ 4611686018427387903) : bellsP (sdifL a b) a = some b.bells := by
  unfold bellsP
  rw [findP_4]
  by_cases h : a.bells = b.bells
  · simp [h]
  · simp only [ne_eq, h, not_false_eq_true, if_true]
    have := getS_0 (v := b.bells) [] h0 (by omega)
    rw [List.append_nil] at this
    rw [this]; simp
theorem sapplyV_dif {a b : Stt} (ka : a.ok = true) (kb : b.ok = true) (h0 : 0 ≤ b.clips) (h1 : 0 ≤ b.bells) : sapplyV a (sdifB a b) = some b := by
  obtain ⟨kav, _⟩ := Stt.ok_fits ka
  obtain ⟨kbv, t1, t2, t3, t4⟩ := Stt.ok_fits kb
  unfold sapplyV
  rw [fieldsP_dif ka kb]
  dsimp only
  rw [if_pos ka]
  unfold sapplyL
  rw [findP_1]
  dsimp only
  rw [applyV_dif kav kbv]
  dsimp only
  rw [clipP_dif h0 t3]
  dsimp only
  rw [bellsP_dif h1 t4]
  dsimp only
  rw [titleP_dif]
  unfold sfinP
  rw [if_pos ⟨kb, rfl⟩]
theorem Stt.eqv_iff {a b : Stt} : a.eqv b ↔ a = b := by
  constructor
  · rintro ⟨h1, h2, ⟨h3, h4⟩, h5⟩
    cases a; cases b
    simp only at h1 h2 h3 h4 h5
    rw [h1, ba_ext h2, ba_ext h3, h4, h5]
  · rintro rfl
    exact ⟨rfl, rfl, ⟨rfl, rfl⟩, rfl⟩
end Go.Proofs.Ytijjjdljdjnbaaa
end
section
/- States: the fixed calls of longlinelaw22.alive. -/
namespace Go.Proofs.Ytijjjdljdjnbaaa
set_option maxRecDepth 100000
set_option linter.unusedVariables false
set_option linter.unusedSimpArgs false
open Go.Sx

theorem ofNil_ok (E : Env) : Does Try.prog 83 #[.pointer none] E [] fun r H' => r = .tuple #[.agg ([.int .i64 0, .int .i64 0, .slice none 0 0, .int .i64 0, .int .i64 0, .bool false, .string ⟨#[]⟩, .string ⟨#[]⟩, .int .u64 0, .int .u64 0] : List Value).toArray, .int .i64 6] ∧ H' = [] := by
  refine Does.go (args := [.pointer none]) _ _ Try.func83 rfl Try.ntmps83 rfl rfl ?_
  refine Body.seq ?_
  refine Body.region ?_
  refine Ops.s (Stp.alloc ty77 (fun b2 => ?_)) rfl
  refine Ops.u (Dtu.asg (lk rfl)) rfl ?_
  refine Ops.nil ?_
  refine Then.next ?_
  refine Body.seq ?_
  refine Body.region ?_
  refine Ops.u (Dtu.mv (lk rfl)) rfl ?_
  refine Ops.s (Stp.call rfl Try.call72 (lks rfl) (fun E' le hat => of_nil E') ?_) rfl
  rintro _ _ ⟨rfl, rfl⟩
  refine Ops.u (Dtu.mv (lk rfl)) rfl ?_
  refine Ops.u (Dtu.ext (lk rfl) rfl) rfl ?_
  refine Ops.u (Dtu.ext (lk rfl) rfl) rfl ?_
  refine Ops.s (Stp.alloc ty24 (fun b4 => ?_)) rfl
  refine Ops.e (Stp.store 0 Try.sizeOf24 (lk rfl) (lk rfl) rfl rfl rfl rfl rfl rfl rfl ?_)
  refine Ops.u (Dtu.asg (lk rfl)) rfl ?_
  refine Ops.nil ?_
  refine Then.next ?_
  refine Body.seq ?_
  refine Body.seq ?_
  refine Body.region ?_
  refine Ops.u (Dtu.mv (lk rfl)) rfl ?_
  refine Ops.u (Dtu.neq (lk rfl) (lk rfl)) rfl ?_
  refine Ops.nil ?_
  refine Then.next ?_
  refine Body.condP (lk rfl) (fun _ => ?_) (fun hn => absurd (by first | omega | assumption | decide) hn)
  refine Body.seq ?_
  refine Body.region ?_
  refine Ops.u (Dtu.build ty77 pl77 (lkp rfl) rfl rfl) rfl ?_
  refine Ops.u (Dtu.mv (lk rfl)) rfl ?_
  refine Ops.e (Stp.store 1 Try.sizeOf77 (lk rfl) (lk rfl) rfl rfl rfl rfl rfl rfl rfl ?_)
  refine Ops.u (Dtu.asg (lk rfl)) rfl ?_
  refine Ops.nil ?_
  refine Then.next ?_
  refine Body.ret ?_
  refine Then.ret ?_
  exact ⟨.inr rfl, _, Loads.agg Try.isAgg77 Try.sizeOf77 (Rds.ow (m := 10) 1 rfl rfl) rfl, _, pk [] rfl, rfl, rfl⟩
def Stt.two : Stt := ⟨View.first, ⟨#[120]⟩, ⟨#[]⟩, 0, 2⟩
theorem sfirst_ok' : Stt.first.ok = true := by decide +kernel
theorem stwo_ok : Stt.two.ok = true := by decide +kernel
abbrev thirteen : List Int := [1, 5, 1, 1, 0, 0, 1, 2, 1, 120, 4, 1, 2]
theorem stwo_dif : sdifB Stt.first Stt.two = thirteen := by
  simp only [sdifB, sdifL, ByteArray.toList_eq]
  decide +kernel
theorem stwo_app : sapplyV Stt.first thirteen = some Stt.two := by rw [← stwo_dif]; exact sapplyV_dif sfirst_ok' stwo_ok (by decide) (by decide)
theorem sone_app : sapplyV Stt.first [1, 0] = none := by
  have h : fieldsP [1, 0] = .inr [(1, [])] := by
    have := readFs_flat [(1, [])] 3 [] [] (by simp) (by simp) (by simp)
    have e : ([] ++ ([(1, [])] : List TF).flatMap fun x => fldB x.1 x.2) = [1, 0] := by decide +kernel
    rw [e] at this
    exact this
  have e : applyV View.first [] = none := by decide +kernel
  unfold sapplyV
  rw [h]
  simp [sfirst_ok', sapplyL, findP, Stt.first, e]
theorem thirteen_byt : Byt thirteen := BytM.byt (by unfold BytM; decide)
theorem sfirstG_ok (E : Env) : Does Try.prog 50 #[] E [] fun r H' => ∃ (f : Stt) (_ : f = Stt.first) (a : Option Addr) (m c : Nat), r = f.val (.slice a m c) ∧ H' = [osl 55 4 (.slice a m c) f.v.cells.length (f.v.cells.flatMap Cell.enc)] := fun w s => by
  refine ((sfirst_ok E) w s).mono ?_
  rintro e w' ⟨r, H', he, ⟨a, m, c, rfl, rfl⟩, s1⟩
  exact ⟨_, _, he, ⟨Stt.first, rfl, a, m, c, rfl, rfl⟩, s1⟩
theorem sdiff_two (E : Env) (f : Stt) (hf : f = Stt.first) (s : Value) (h : f.v.has E [] s) : Does Try.prog 41 #[f.val s, (Stt.mk f.v ⟨#[120]⟩ f.clip f.clips 2).val s] E [] fun r H' => ∃ (s' : Value) (bs : List Int), r = .tuple #[s', .int .i64 0] ∧ H' = [osl 5 1 s' bs.length (bs.map (.int .u8))] ∧ bs = thirteen := by
  subst hf
  have := sdiff_ok E Stt.first Stt.two s s h h sfirst_ok' stwo_ok (by decide) (by decide)
  rw [stwo_dif] at this
  intro w s
  refine (this w s).mono ?_
  rintro e w' ⟨r, H', he, ⟨s', rfl, rfl⟩, s1⟩
  exact ⟨_, _, he, ⟨s', thirteen, rfl, rfl, rfl⟩, s1⟩
theorem sapply_two (E : Env) (f : Stt) (hf : f = Stt.first) (s b : Value) (bs : List Int) (h : f.v.has E [] s) (hb : Sl E [] 1 b bs.length (bs.map (.int .u8))) (e : bs = thirteen) : Does Try.prog 47 #[f.val s, b] E [] fun r H' => ∃ (g : Stt) (s : Value), r = .tuple #[g.val s, .int .i64 0] ∧ H' = [osl 55 4 s g.v.cells.length (g.v.cells.flatMap Cell.enc)] ∧ g = Stt.two := by
  subst hf; subst e
  have := sapply_ok E Stt.first s b thirteen h hb thirteen_byt (by decide) first_fl (by decide) (by decide)
  rw [stwo_app] at this
  intro w s
  refine (this w s).mono ?_
  rintro e w' ⟨r, H', he, ⟨s', rfl, rfl⟩, s1⟩
  exact ⟨_, _, he, ⟨Stt.two, s', rfl, rfl, rfl⟩, s1⟩
theorem sapply_one (E : Env) (f : Stt) (hf : f = Stt.first) (s b : Value) (h : f.v.has E [] s) (hb : Sl E [] 1 b 2 (([1, 0] : List Int).map (.int .u8))) : Does Try.prog 47 #[f.val s, b] E [] fun r H' => r = .tuple #[.agg ([.int .i64 0, .int .i64 0, .slice none 0 0, .int .i64 0, .int .i64 0, .bool false, .string ⟨#[]⟩, .string ⟨#[]⟩, .int .u64 0, .int .u64 0] : List Value).toArray, .int .i64 3] ∧ H' = [] := by
  subst hf
  have := sapply_ok E Stt.first s b [1, 0] h hb (BytM.byt (by unfold BytM; decide)) (by decide) first_fl (by decide) (by decide)
  rw [sone_app] at this
  exact this
set_option maxHeartbeats 3200000 in
theorem alive22_ok (E : Env) : Does Try.prog 39 #[] E [] fun r H' => r = .bool true ∧ H' = [] := by
  refine Does.go (args := []) _ _ Try.func39 rfl Try.ntmps39 rfl rfl ?_
  refine Body.seq ?_
  refine Body.region ?_
  refine Ops.u (Dtu.asg (lk rfl)) rfl ?_
  refine Ops.nil ?_
  refine Then.next ?_
  refine Body.seq ?_
  refine Body.region ?_
  refine Ops.s (Stp.call rfl Try.call50 (lks rfl) (fun E' le hat => sfirstG_ok E') ?_) rfl
  rintro _ _ ⟨f11, fe11, fa11, fm11, fc11, rfl, rfl⟩
  refine Ops.s (Stp.alloc ty77 (fun b1 => ?_)) rfl
  refine Ops.e (Stp.store 0 Try.sizeOf77 (lk rfl) (lk rfl) rfl rfl rfl rfl rfl rfl rfl ?_)
  refine Ops.nil ?_
  refine Then.next ?_
  refine Body.seq ?_
  refine Body.region ?_
  refine Ops.d (Det.lda Try.isAgg77 Try.sizeOf77 (lk rfl) (Rds.ow (m := 10) 0 rfl rfl) rfl) rfl ?_
  refine Ops.s (Stp.alloc ty77 (fun b2 => ?_)) rfl
  refine Ops.e (Stp.store 0 Try.sizeOf77 (lk rfl) (lk rfl) rfl rfl rfl rfl rfl rfl rfl ?_)
  refine Ops.nil ?_
  refine Then.next ?_
  refine Body.seq ?_
  refine Body.region ?_
  refine Ops.u (Dtu.fld fa77_1 (lk rfl)) rfl ?_
  refine Ops.e (Stp.store 0 Try.sizeOf9 (lk rfl) (lk rfl) rfl rfl rfl rfl rfl rfl rfl ?_)
  refine Ops.u (Dtu.fld fa77_4 (lk rfl)) rfl ?_
  refine Ops.e (Stp.store 0 Try.sizeOf75 (lk rfl) (lk rfl) rfl rfl rfl rfl rfl rfl rfl ?_)
  refine Ops.nil ?_
  refine Then.next ?_
  refine Body.seq ?_
  refine Body.region ?_
  refine Ops.d (Det.lda Try.isAgg77 Try.sizeOf77 (lk rfl) (Rds.ow (m := 10) 1 rfl rfl) rfl) rfl ?_
  refine Ops.d (Det.lda Try.isAgg77 Try.sizeOf77 (lk rfl) (Rds.ow (m := 10) 0 rfl rfl) rfl) rfl ?_
  refine Ops.s (Stp.call rfl Try.call41 (lks rfl) (fun E' le hat => sdiff_two E' f11 fe11 (.slice fa11 fm11 fc11) (Sl.at (hat _ (.tail _ (.tail _ (.head _)))))) ?_) rfl
  rintro _ _ ⟨s18, bs, rfl, rfl, hbs⟩
  refine Ops.u (Dtu.mv (lk rfl)) rfl ?_
  refine Ops.u (Dtu.ext (lk rfl) rfl) rfl ?_
  refine Ops.u (Dtu.ext (lk rfl) rfl) rfl ?_
  refine Ops.u (Dtu.asg (lk rfl)) rfl ?_
  refine Ops.u (Dtu.asg (lk rfl)) rfl ?_
  refine Ops.nil ?_
  refine Then.next ?_
  refine Body.seq ?_
  refine Body.region ?_
  refine Ops.d (Det.lda Try.isAgg77 Try.sizeOf77 (lk rfl) (Rds.ow (m := 10) 2 rfl rfl) rfl) rfl ?_
  refine Ops.u (Dtu.mv (lk rfl)) rfl ?_
  refine Ops.s (Stp.call rfl Try.call47 (lks rfl) (fun E' le hat => sapply_two E' f11 fe11 (.slice fa11 fm11 fc11) s18 bs (Sl.at (hat _ (.tail _ (.tail _ (.tail _ (.head _)))))) (Sl.at (hat _ (.head _))) hbs) ?_) rfl
  rintro _ _ ⟨g, y0, rfl, rfl, hg⟩
  refine Ops.pure (Sl.isSl (Sl.osl 0 rfl)) fun hy => ?_
  obtain ⟨y1, y2, y3, rfl⟩ := hy
  refine Ops.u (Dtu.mv (lk rfl)) rfl ?_
  refine Ops.u (Dtu.ext (lk rfl) rfl) rfl ?_
  refine Ops.u (Dtu.ext (lk rfl) rfl) rfl ?_
  refine Ops.s (Stp.alloc ty77 (fun b5 => ?_)) rfl
  refine Ops.e (Stp.store 0 Try.sizeOf77 (lk rfl) (lk rfl) rfl rfl rfl rfl rfl rfl rfl ?_)
  refine Ops.u (Dtu.asg (lk rfl)) rfl ?_
  refine Ops.nil ?_
  refine Then.next ?_
  refine Body.seq ?_
  refine Body.region ?_
  refine Ops.d (Det.lda Try.isAgg77 Try.sizeOf77 (lk rfl) (Rds.ow (m := 10) 4 rfl rfl) rfl) rfl ?_
  refine Ops.s (Stp.buildSliceO Try.underlying32 ty5 (by decide) (by decide) (lkp rfl) rfl rfl rfl (by decide) (fun v29 => ?_)) rfl
  refine Ops.pure (Sl.isSl (Sl.osl 0 rfl)) fun hy => ?_
  obtain ⟨x1, x2, x3, rfl⟩ := hy
  refine Ops.s (Stp.call rfl Try.call47 (lks rfl) (fun E' le hat => sapply_one E' f11 fe11 (.slice fa11 fm11 fc11) (.slice x1 x2 x3) (Sl.at (hat _ (.tail _ (.tail _ (.tail _ (.tail _ (.tail _ (.tail _ (.head _))))))))) (Sl.at (hat _ (.head _)))) ?_) rfl
  rintro _ _ ⟨rfl, rfl⟩
  refine Ops.u (Dtu.mv (lk rfl)) rfl ?_
  refine Ops.u (Dtu.ext (lk rfl) rfl) rfl ?_
  refine Ops.u (Dtu.ext (lk rfl) rfl) rfl ?_
  refine Ops.s (Stp.alloc ty77 (fun b7 => ?_)) rfl
  refine Ops.e (Stp.store 0 Try.sizeOf77 (lk rfl) (lk rfl) rfl rfl rfl rfl rfl rfl rfl ?_)
  refine Ops.u (Dtu.asg (lk rfl)) rfl ?_
  refine Ops.nil ?_
  refine Then.next ?_
  refine Body.seq ?_
  refine Body.region ?_
  refine Ops.s (Stp.call rfl Try.call83 (lks rfl) (fun E' le hat => ofNil_ok E') ?_) rfl
  rintro _ _ ⟨rfl, rfl⟩
  refine Ops.u (Dtu.mv (lk rfl)) rfl ?_
  refine Ops.u (Dtu.ext (lk rfl) rfl) rfl ?_
  refine Ops.u (Dtu.ext (lk rfl) rfl) rfl ?_
  refine Ops.s (Stp.alloc ty77 (fun b9 => ?_)) rfl
  refine Ops.e (Stp.store 0 Try.sizeOf77 (lk rfl) (lk rfl) rfl rfl rfl rfl rfl rfl rfl ?_)
  refine Ops.u (Dtu.asg (lk rfl)) rfl ?_
  refine Ops.nil ?_
  refine Then.next ?_
  refine Body.seq ?_
  refine Body.region ?_
  refine Ops.u (Dtu.mv (lk rfl)) rfl ?_
  refine Ops.u (Dtu.eql (lk rfl) (lk rfl)) rfl ?_
  refine Ops.u (Dtu.mv (lk rfl)) rfl ?_
  refine Ops.decP 39 rfl (fun _ => ?_) (fun hn => absurd (by first | omega | assumption | decide) hn)
  refine Ops.gu rfl rfl rfl (Dtu.mv (lk rfl)) rfl ?_
  refine Ops.gd rfl rfl rfl (Det.bstr Try.underlying32 Try.underlying5 Try.underlying9 (lk rfl) (Sl.osl 5 rfl)) rfl ?_
  refine Ops.gu rfl rfl rfl (Dtu.eqStr (lk rfl) (lk rfl)) rfl ?_
  refine Ops.u (Dtu.pickT (lk rfl) (lk rfl)) rfl ?_
  refine Ops.u (Dtu.mv (lk rfl)) rfl ?_
  refine Ops.decP 44 rfl (fun c44 => ?_) (fun c44 => ?_)
  · clear c44
    refine Ops.gu rfl rfl rfl (Dtu.mv (lk rfl)) rfl ?_
    refine Ops.gu rfl rfl rfl (Dtu.eql (lk rfl) (lk rfl)) rfl ?_
    refine Ops.u (Dtu.pickT (lk rfl) (lk rfl)) rfl ?_
    refine Ops.u (Dtu.mv (lk rfl)) rfl ?_
    refine Ops.decP 48 rfl (fun _ => ?_) (fun hn => absurd (by first | omega | assumption | decide) hn)
    refine Ops.gd rfl rfl rfl (Det.lda Try.isAgg77 Try.sizeOf77 (lk rfl) (Rds.ow (m := 10) 6 rfl rfl) rfl) rfl ?_
    refine Ops.gd rfl rfl rfl (Det.lda Try.isAgg77 Try.sizeOf77 (lk rfl) (Rds.ow (m := 10) 3 rfl rfl) rfl) rfl ?_
    have he : decide ((Stt.mk f11.v ⟨#[120]⟩ f11.clip f11.clips 2).eqv g) = true := decide_eq_true (by rw [Stt.eqv_iff, hg, fe11]; rfl)
    refine Ops.gs rfl rfl rfl (Stp.call rfl Try.call44 (lks rfl) (fun E' le hat => ssame_ok E' (Stt.mk f11.v ⟨#[120]⟩ f11.clip f11.clips 2) g (.slice fa11 fm11 fc11) (.slice y1 y2 y3) (Sl.at (hat _ (.tail _ (.tail _ (.tail _ (.tail _ (.tail _ (.tail _ (.tail _ (.tail _ (.head _))))))))))) (Sl.at (hat _ (.tail _ (.tail _ (.tail _ (.tail _ (.head _)))))))) ?_) rfl
    rintro _ _ ⟨rfl, rfl⟩
    rw [he]
    refine Ops.u (Dtu.pickT (lk rfl) (lk rfl)) rfl ?_
    refine Ops.u (Dtu.mv (lk rfl)) rfl ?_
    refine Ops.gu rfl rfl rfl (Dtu.mv (lk rfl)) rfl ?_
    refine Ops.gu rfl rfl rfl (Dtu.eql (lk rfl) (lk rfl)) rfl ?_
    refine Ops.u (Dtu.pickT (lk rfl) (lk rfl)) rfl ?_
    refine Ops.u (Dtu.mv (lk rfl)) rfl ?_
    refine Ops.decP 57 rfl (fun _ => ?_) (fun hn => absurd (by first | omega | assumption | decide) hn)
    refine Ops.gu rfl rfl rfl (Dtu.mv (lk rfl)) rfl ?_
    refine Ops.gu rfl rfl rfl (Dtu.eql (lk rfl) (lk rfl)) rfl ?_
    refine Ops.u (Dtu.pickT (lk rfl) (lk rfl)) rfl ?_
    refine Ops.u (Dtu.asg (lk rfl)) rfl ?_
    refine Ops.nil ?_
    refine Then.next ?_
    refine Body.ret ?_
    exact ⟨.inr rfl, _, pk [] rfl, rfl, rfl⟩
  · exact (c44 (by rw [hbs]; exact congrArg ByteArray.toList rfl)).elim
end Go.Proofs.Ytijjjdljdjnbaaa
end
section
/- States: the law function RegMakes. -/
namespace Go.Proofs.Ytijjjdljdjnbaaa
set_option maxRecDepth 100000
set_option linter.unusedVariables false
set_option linter.unusedSimpArgs false
open Go.Sx

structure Stt.Fine (x : Stt) : Prop where
  fl : ∀ c ∈ x.v.cells, c.Fl
  c0 : 0 ≤ x.clips
  b0 : 0 ≤ x.bells
end Go.Proofs.Ytijjjdljdjnbaaa
end
section
/- States as arguments. -/
namespace Go.Proofs.Ytijjjdljdjnbaaa
set_option maxRecDepth 100000
set_option linter.unusedVariables false
set_option linter.unusedSimpArgs false
open Go.Sx Go.ChangeShapes Go.RowKit Go.WideShapes

theorem cells1_9 : Try.prog.cellsOf 9 = 1 := by kernel_rfl
theorem cells1_75 : Try.prog.cellsOf 75 = 1 := by kernel_rfl
theorem cells10_77 : Try.prog.cellsOf 77 = 10 := by kernel_rfl
theorem open_state {H : Type} {enc : TypeId × Value → H} {W : World} {b0 : Nat} {v0 : Value} {d : DataW H} {p : List MemPlace} (hval : Value.okWide Try.prog W .any b0 77 v0) (h0 : DataW.Trod enc Try.prog W 0 (fun _ => true) true 77 v0 d p) :
    ∃ (v : Stt) (s : Value), v0 = v.val s ∧ v.v.has (envOf W) [] s ∧ v.Fine ∧ ∀ c ∈ v.v.cells, c.In32 := by
  obtain ⟨cs, rfl, _⟩ := okWide_struct Try.underlying77 hval
  obtain ⟨n, h⟩ := h0
  have e : (Value.agg cs).cells.toList = cs.toList := rfl
  rw [e] at h
  have hl := lenT Try.underlying77 h
  rw [cells10_77] at hl
  obtain ⟨l⟩ := cs
  dsimp only at h hl
  match l, hl with
  | [v0, v1, v2, v3, v4, v5, v6, v7, v8, v9], _ =>
    obtain ⟨nv, yv, hv⟩ := fldT Try.underlying77 h 0 24 0 6 rfl rfl rfl cells6_24
    obtain ⟨n6, y6, h6⟩ := fldT Try.underlying77 h 1 9 6 1 rfl rfl rfl cells1_9
    obtain ⟨n7, y7, h7⟩ := fldT Try.underlying77 h 2 9 7 1 rfl rfl rfl cells1_9
    obtain ⟨n8, y8, h8⟩ := fldT Try.underlying77 h 3 75 8 1 rfl rfl rfl cells1_75
    obtain ⟨n9, y9, h9⟩ := fldT Try.underlying77 h 4 75 9 1 rfl rfl rfl cells1_75
    obtain ⟨n0, y0, h0⟩ := fldT Try.underlying24 hv 0 3 0 1 rfl rfl rfl cells1_3
    obtain ⟨n1, y1, h1⟩ := fldT Try.underlying24 hv 1 3 1 1 rfl rfl rfl cells1_3
    obtain ⟨n2, y2, h2⟩ := fldT Try.underlying24 hv 2 22 2 1 rfl rfl rfl cells1_22
    obtain ⟨n3, y3, h3⟩ := fldT Try.underlying24 hv 3 3 3 1 rfl rfl rfl cells1_3
    obtain ⟨n4, y4, h4⟩ := fldT Try.underlying24 hv 4 3 4 1 rfl rfl rfl cells1_3
    obtain ⟨n5, y5, h5⟩ := fldT Try.underlying24 hv 5 4 5 1 rfl rfl rfl cells1_4
    obtain ⟨a0, e0, _, w0⟩ := DataW.trod_int Try.underlying3 h0
    obtain ⟨a1, e1, _, w1⟩ := DataW.trod_int Try.underlying3 h1
    obtain ⟨s, cells, e2, hs, hc⟩ := trod_cells h2
    obtain ⟨a3, e3, _, w3⟩ := DataW.trod_int Try.underlying3 h3
    obtain ⟨a4, e4, _, w4⟩ := DataW.trod_int Try.underlying3 h4
    obtain ⟨b5, e5, _⟩ := DataW.trod_bool Try.underlying4 h5
    obtain ⟨s6, e6, _⟩ := DataW.trod_string Try.underlying9 h6
    obtain ⟨s7, e7, _⟩ := DataW.trod_string Try.underlying9 h7
    obtain ⟨a8, e8, _, w8⟩ := DataW.trod_int Try.underlying75 h8
    obtain ⟨a9, e9, _, w9⟩ := DataW.trod_int Try.underlying75 h9
    simp at e0 e1 e2 e3 e4 e5 e6 e7 e8 e9
    subst e0 e1 e2 e3 e4 e5 e6 e7 e8 e9
    have b8 := bounds_u64 w8
    have b9 := bounds_u64 w9
    exact ⟨⟨⟨a0, a1, cells, a3, a4, b5⟩, s6, s7, a8, a9⟩, v2, rfl, hs, ⟨fun c h => (hc c h).Fl, b8.1, b9.1⟩, hc⟩
end Go.Proofs.Ytijjjdljdjnbaaa
end
