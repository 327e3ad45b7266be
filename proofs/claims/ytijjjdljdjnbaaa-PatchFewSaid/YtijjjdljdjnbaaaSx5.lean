/- Slices: read, owned, made, grown, copied. A slice's value is never looked into: 'blkOf', 'offOf' name its place. -/
import Derived.Test.YtijjjdljdjnbaaaSx4
namespace Go.Sx
open Go

def blkOf : Value → Nat
  | .slice (some a) _ _ => a.block
  | _ => 0
def offOf : Value → Nat
  | .slice (some a) _ _ => a.off
  | _ => 0
def capOf : Value → Nat
  | .slice _ _ c => c
  | _ => 0

/-- in this world v is a slice of m elements of sz cells each, which are these -/
structure SlW (w : World) (sz : Nat) (v : Value) (m : Nat) (vs : List Value) : Prop where
  len : vs.length = m * sz
  max : m ≤ maxLen
  val : (m = 0 ∧ ∃ a c, v = .slice a 0 c ∧ c ≤ maxLen) ∨ ∃ cap, v = .slice (some ⟨blkOf v, offOf v, none⟩) m cap ∧ m ≤ cap ∧ cap ≤ maxLen ∧ ∀ j u, vs[j]? = some u → w.cell? ⟨blkOf v, offOf v + j, none⟩ = some u
def Sl (E : Env) (H : List HProp) (sz : Nat) (v : Value) (m : Nat) (vs : List Value) : Prop := ∀ w, St E H w → SlW w sz v m vs
theorem Sl.up {E : Env} {H : List HProp} {sz m : Nat} {v : Value} {vs : List Value} (h : Sl E [] sz v m vs) : Sl E H sz v m vs := fun w s => h w (by
  have := s.drop_tail (A := []) (H := H); exact this)
theorem St.le_env {E E' : Env} {w : World} (le : E.Le E') (s : St E' [] w) : St E [] w :=
  ⟨⟨Hp.emp, rfl, (Hp.emp_disj _).symm, Hp.emp_le _⟩, le.hp.trans s.keep, s.os.trans le.os, s.tape.trans le.tape, s.output.trans le.output⟩
theorem Sl.mono {E E' : Env} {sz m : Nat} {v : Value} {vs : List Value} (h : Sl E [] sz v m vs) (le : E.Le E') : Sl E' [] sz v m vs := fun w s => h w (s.le_env le)
theorem Sl.nil {E : Env} {H : List HProp} {sz : Nat} {a : Option Addr} : Sl E H sz (.slice a 0 0) 0 [] := fun _ _ => ⟨by simp, Nat.zero_le _, .inl ⟨rfl, a, 0, rfl, Nat.zero_le _⟩⟩
theorem Sl.ow {E : Env} {H : List HProp} (i : Nat) {b sz m c : Nat} {vs : List Value} {t : TypeId} (hi : H[i]? = some (own b vs t)) (hl : vs.length = m * sz) (hc : m ≤ c) (hm : c ≤ maxLen) : Sl E H sz (.slice (some ⟨b, 0, none⟩) m c) m vs := fun w s =>
  ⟨hl, Nat.le_trans hc hm, .inr ⟨c, rfl, hc, hm, fun j u hj => (Rds.owAll (E := E) i hi j u hj) w s⟩⟩

/-- an owned slice -/
def osl (t : TypeId) (sz : Nat) (v : Value) (m : Nat) (vs : List Value) : HProp := fun h =>
  (∃ a, v = .slice a 0 0 ∧ m = 0 ∧ vs = [] ∧ h = Hp.emp) ∨
  ∃ b cap rest, v = .slice (some ⟨b, 0, none⟩) m cap ∧ vs.length = m * sz ∧ m ≤ cap ∧ cap ≤ maxLen ∧ (vs ++ rest).length = cap * sz ∧ h = Hp.one b (.cells (vs ++ rest).toArray t (0, 0))

theorem osl_cases {E : Env} {H : List HProp} {t : TypeId} {sz m : Nat} {v : Value} {vs : List Value} {w : World} (s : St E (osl t sz v m vs :: H) w) :
    (∃ a, v = .slice a 0 0 ∧ m = 0 ∧ vs = [] ∧ St E H w) ∨
    ∃ b cap rest, v = .slice (some ⟨b, 0, none⟩) m cap ∧ vs.length = m * sz ∧ m ≤ cap ∧ cap ≤ maxLen ∧ (vs ++ rest).length = cap * sz ∧ St E (own b (vs ++ rest) t :: H) w := by
  obtain ⟨h, ⟨h1, h2, ho, s2, d, rfl⟩, dE, l⟩ := s.has
  rcases ho with ⟨a, e1, e2, e3, rfl⟩ | ⟨b, cap, rest, e1, e2, e3, e4, e5, rfl⟩
  · exact .inl ⟨a, e1, e2, e3, s.drop⟩
  · exact .inr ⟨b, cap, rest, e1, e2, e3, e4, e5, ⟨⟨_, ⟨_, h2, rfl, s2, d, rfl⟩, dE, l⟩, s.keep, s.os, s.tape, s.output⟩⟩
theorem osl_nil {E : Env} {H : List HProp} {t : TypeId} {sz : Nat} {a : Option Addr} {w : World} (s : St E H w) : St E (osl t sz (.slice a 0 0) 0 [] :: H) w := by
  obtain ⟨h, sh, dE, l⟩ := s.has
  exact ⟨⟨h, ⟨Hp.emp, h, .inl ⟨a, rfl, rfl, rfl, rfl⟩, sh, Hp.emp_disj _, rfl⟩, dE, l⟩, s.keep, s.os, s.tape, s.output⟩
theorem osl_own {E : Env} {H : List HProp} {t : TypeId} {sz m b cap : Nat} {vs rest : List Value} {w : World} (h1 : vs.length = m * sz) (h2 : m ≤ cap) (h3 : cap ≤ maxLen) (h4 : (vs ++ rest).length = cap * sz)
    (s : St E (own b (vs ++ rest) t :: H) w) : St E (osl t sz (.slice (some ⟨b, 0, none⟩) m cap) m vs :: H) w := by
  obtain ⟨h, ⟨g1, g2, rfl, s2, d, rfl⟩, dE, l⟩ := s.has
  exact ⟨⟨_, ⟨_, g2, .inr ⟨b, cap, rest, rfl, h1, h2, h3, h4, rfl⟩, s2, d, rfl⟩, dE, l⟩, s.keep, s.os, s.tape, s.output⟩

theorem slW_own {E : Env} {H : List HProp} {t : TypeId} {sz m b cap : Nat} {vs rest : List Value} {w : World} (h1 : vs.length = m * sz) (h2 : m ≤ cap) (h3 : cap ≤ maxLen) (s : St E (own b (vs ++ rest) t :: H) w) :
    SlW w sz (.slice (some ⟨b, 0, none⟩) m cap) m vs :=
  ⟨h1, Nat.le_trans h2 h3, .inr ⟨cap, rfl, h2, h3, fun j u hj => cell_of_heap s.block (by
    simp only [offOf, Nat.zero_add, List.getElem?_toArray]
    rw [List.getElem?_append_left (List.getElem?_eq_some_iff.1 hj).1]; exact hj)⟩⟩
theorem Sl.osl {E : Env} {H : List HProp} (i : Nat) {t : TypeId} {sz m : Nat} {v : Value} {vs : List Value} (hi : H[i]? = some (osl t sz v m vs)) : Sl E H sz v m vs := fun w s => by
  rcases osl_cases (s.get hi) with ⟨a, rfl, rfl, rfl, _⟩ | ⟨b, cap, rest, rfl, h1, h2, h3, h4, s2⟩
  · exact ⟨by simp, Nat.zero_le _, .inl ⟨rfl, a, 0, rfl, Nat.zero_le _⟩⟩
  · exact slW_own h1 h2 h3 s2
/-- an owned slice, where it stays -/
theorem Sl.at {E : Env} {t : TypeId} {sz m : Nat} {v : Value} {vs : List Value} (h : At (Sx.osl t sz v m vs) E) : Sl E [] sz v m vs := fun w s => by
  obtain ⟨x, hx, le⟩ := h
  rcases hx with ⟨a, rfl, rfl, rfl, _⟩ | ⟨b, cap, rest, rfl, h1, h2, h3, h4, rfl⟩
  · exact ⟨by simp, Nat.zero_le _, .inl ⟨rfl, a, 0, rfl, Nat.zero_le _⟩⟩
  · refine ⟨h1, Nat.le_trans h2 h3, .inr ⟨cap, rfl, h2, h3, fun j u hj => ?_⟩⟩
    have hb : w.heap[b]? = some (.cells (vs ++ rest).toArray t (0, 0)) := s.keep b _ (le b _ (by simp [Hp.one]))
    refine cell_of_heap hb ?_
    simp only [offOf, Nat.zero_add, List.getElem?_toArray]
    rw [List.getElem?_append_left (List.getElem?_eq_some_iff.1 hj).1]; exact hj
theorem own_at {E : Env} {b : Nat} {vs : List Value} {t : TypeId} (h : At (own b vs t) E) {off : Nat} {v : Value} (hv : vs[off]? = some v) : Cell E b off v := by
  obtain ⟨x, rfl, le⟩ := h
  exact ⟨_, _, _, le b _ (by simp [Hp.one]; exact ⟨rfl, rfl, rfl⟩), by simpa using hv⟩

theorem Rd.sl {E : Env} {H : List HProp} {sz m : Nat} {v : Value} {vs : List Value} (h : Sl E H sz v m vs) {j : Nat} {u : Value} (hj : vs[j]? = some u) : Rd E H (blkOf v) (offOf v + j) u := fun w s => by
  have k := h w s
  rcases k.val with ⟨rfl, _⟩ | ⟨cap, _, _, _, hc⟩
  · have : vs = [] := List.eq_nil_of_length_eq_zero (by simpa using k.len)
    subst this; simp at hj
  · exact hc j u hj
theorem Rds.sl {E : Env} {H : List HProp} {sz m : Nat} {v : Value} {vs us : List Value} (h : Sl E H sz v m vs) {p k : Nat} (hu : (vs.drop p).take k = us) : Rds E H (blkOf v) (offOf v + p) us := fun j u hj => by
  subst hu
  rw [Nat.add_assoc]
  refine Rd.sl h ?_
  rw [List.getElem?_take] at hj
  split at hj
  · rw [List.getElem?_drop] at hj; exact hj
  · cases hj

section
variable {P : Program} {n : Nat} {f : Fr} {E : Env} {H : List HProp} {d : Option Nat} {ty : TypeId} {pos : String} {aft : Array Edge} {g : Option (Nat × Bool)} {x y z : Operand} {K : Value → List HProp → Prop}
theorem Dtu.lenS {t e : TypeId} {sz m : Nat} {v : Value} {vs : List Value} (ht : P.underlying t = some (.slice e)) (h : Sl E H sz v m vs) (hx : ev f x = v) :
    Dtu P n f E H ⟨d, .call { callee := .builtin .len, args := #[x], argTypes := #[t] }, ty, pos, aft, g⟩ (.int .i64 m) := fun w0 s w a' r => by
  rcases (h w0 s).val with ⟨rfl, a, c, rfl, _⟩ | ⟨cap, e, _⟩
  · exact Dtu.len ht hx w0 s w a' r
  · exact Dtu.len ht (hx.trans e) w0 s w a' r
theorem Dtu.ix {t e : TypeId} {sz m i : Nat} {v : Value} {vs : List Value} {kk : IntKind} {iv : Int} (ht : P.underlying t = some (.slice e)) (hz : ∀ w, (sizeOf e).run P w = .ok sz w) (h : Sl E H sz v m vs) (hx : ev f x = v) (hy : ev f y = .int kk iv)
    (hi : iv = (i : Int)) (hlt : i < m) : Dtu P n f E H ⟨d, .indexAddr t x y, ty, pos, aft, g⟩ (.pointer (some ⟨blkOf v, offOf v + i * sz, none⟩)) := fun w0 s w a' r => by
  rcases (h w0 s).val with ⟨rfl, _⟩ | ⟨cap, e, _⟩
  · omega
  · exact Dtu.ixs ht hz (hx.trans e) hy hi hlt w0 s w a' r
/-- v[lo:hi], v[lo:hi:mx] -/
def subSl (v : Value) (sz lo hi mx : Nat) : Value := match v with
  | .slice a _ _ => .slice (if mx = lo then a else a.map (·.add (lo * sz))) (hi - lo) (mx - lo)
  | _ => v
theorem subSl_slW {w : World} {sz m : Nat} {v : Value} {vs : List Value} (h : SlW w sz v m vs) {lo hi mx : Nat} (h1 : lo ≤ hi) (h2 : hi ≤ m) (h3 : hi ≤ mx) (h4 : mx ≤ capOf v) : SlW w sz (subSl v sz lo hi mx) (hi - lo) ((vs.drop (lo * sz)).take ((hi - lo) * sz)) := by
  have hlen : ((vs.drop (lo * sz)).take ((hi - lo) * sz)).length = (hi - lo) * sz := by
    have e : m * sz = lo * sz + (hi - lo) * sz + (m - hi) * sz := by rw [← Nat.add_mul, ← Nat.add_mul]; congr 1; omega
    simp only [List.length_take, List.length_drop, h.len]; omega
  rcases h.val with ⟨hm, a, c, hv, hcm⟩ | ⟨cap, hv, hc, hcm, hcell⟩
  · subst hm
    obtain rfl : lo = 0 := by omega
    obtain rfl : hi = 0 := by omega
    subst hv
    refine ⟨hlen, Nat.zero_le _, .inl ⟨rfl, ?_⟩⟩
    simp only [subSl, capOf] at *
    exact ⟨_, _, rfl, by omega⟩
  · have hmx := h.max
    generalize blkOf v = b at *
    generalize offOf v = o at *
    subst hv
    simp only [capOf] at h4
    refine ⟨hlen, by omega, ?_⟩
    by_cases hz : hi - lo = 0
    · exact .inl ⟨hz, (if mx = lo then some ⟨b, o, none⟩ else (some (⟨b, o, none⟩ : Addr)).map (·.add (lo * sz))), mx - lo, by simp only [subSl, hz], by omega⟩
    · have hne : ¬ mx = lo := by omega
      have e : subSl (.slice (some ⟨b, o, none⟩) m cap) sz lo hi mx = .slice (some ⟨b, o + lo * sz, none⟩) (hi - lo) (mx - lo) := by
        simp only [subSl, hne, if_false, Option.map_some, addr_add]
      rw [e]
      refine .inr ⟨mx - lo, rfl, by omega, by omega, fun j u hj => ?_⟩
      simp only [blkOf, offOf]
      rw [List.getElem?_take] at hj
      split at hj
      · rw [List.getElem?_drop] at hj; rw [Nat.add_assoc]; exact hcell _ _ hj
      · cases hj
theorem SlW.cap {w : World} {sz m : Nat} {v : Value} {vs : List Value} (h : SlW w sz v m vs) : m ≤ capOf v ∧ capOf v ≤ maxLen ∧ ∃ a, v = .slice a m (capOf v) := by
  rcases h.val with ⟨rfl, a, c, rfl, hc⟩ | ⟨cap, e, hc, hcm, _⟩
  · exact ⟨Nat.zero_le _, hc, a, rfl⟩
  · rw [e]; exact ⟨hc, hcm, _, rfl⟩
theorem Sl.sub {sz m : Nat} {v : Value} {vs : List Value} (h : Sl E H sz v m vs) (lo hi mx : Nat) (h1 : lo ≤ hi) (h2 : hi ≤ m) (h3 : hi ≤ mx) (h4 : mx ≤ capOf v) {us : List Value} (hu : (vs.drop (lo * sz)).take ((hi - lo) * sz) = us) :
    Sl E H sz (subSl v sz lo hi mx) (hi - lo) us := fun w s => hu ▸ subSl_slW (h w s) h1 h2 h3 h4
/-- with no third bound -/
theorem Sl.sub' {sz m : Nat} {v : Value} {vs : List Value} (h : Sl E H sz v m vs) (lo hi : Nat) (h1 : lo ≤ hi) (h2 : hi ≤ m) {us : List Value} (hu : (vs.drop (lo * sz)).take ((hi - lo) * sz) = us) :
    Sl E H sz (subSl v sz lo hi (capOf v)) (hi - lo) us := fun w s => hu ▸ subSl_slW (h w s) h1 h2 (Nat.le_trans h2 (h w s).cap.1) (Nat.le_refl _)
theorem Dtu.slc {t e : TypeId} {sz m : Nat} {v : Value} {vs : List Value} {lo hi : Option Operand} {l h : Nat} (ht : P.underlying t = some (.slice e)) (hz : ∀ w, (sizeOf e).run P w = .ok sz w) (hs : Sl E H sz v m vs) (hx : ev f x = v)
    (hlo : match lo with | none => l = 0 | some o => ∃ k, ev f o = .int k (l : Int)) (hhi : match hi with | none => h = m | some o => ∃ k, ev f o = .int k (h : Int)) (h1 : l ≤ h) (h2 : h ≤ m) :
    Dtu P n f E H ⟨d, .slice t x lo hi none, ty, pos, aft, g⟩ (subSl v sz l h (capOf v)) := fun w0 s w a' r => by
  obtain ⟨c1, c2, a, hv⟩ := (hs w0 s).cap
  generalize capOf v = c at *
  subst hv
  have b1 : ∀ (k : IntKind) (y : Nat) (code : BoundsCode), l ≤ y → (Instr.sliceBound (.int k (l : Int)) y code).run P w = .ok l w := fun k y code hy => by
    rw [run_sliceBound _ _ _ _ _ (by omega) (by omega)]; simp
  have b2 : ∀ (k : IntKind) (y : Nat) (code : BoundsCode), h ≤ y → (Instr.sliceBound (.int k (h : Int)) y code).run P w = .ok h w := fun k y code hy => by
    rw [run_sliceBound _ _ _ _ _ (by omega) (by omega)]; simp
  have e : (Instr.sliceBounds true m c (lo.map (ev f)) (hi.map (ev f)) none).run P w = .ok (l, h, c) w := by
    cases lo with
    | none =>
      simp only at hlo
      subst hlo
      cases hi with
      | none => simp only at hhi; subst hhi; simp [Instr.sliceBounds]
      | some o =>
        obtain ⟨k, hk⟩ := hhi
        simp only [Instr.sliceBounds, Option.map_none, Option.map_some, hk, Sem.run_bind, Sem.run_pure, Result.andThen_ok, b2 k c _ (Nat.le_trans h2 c1)]
    | some o' =>
      obtain ⟨k', hk'⟩ := hlo
      cases hi with
      | none => simp only at hhi; subst hhi; simp only [Instr.sliceBounds, Option.map_none, Option.map_some, hk', Sem.run_bind, Sem.run_pure, Result.andThen_ok, b1 k' h _ h1]
      | some o =>
        obtain ⟨k, hk⟩ := hhi
        simp only [Instr.sliceBounds, Option.map_some, hk, hk', Sem.run_bind, Sem.run_pure, Result.andThen_ok, b2 k c _ (Nat.le_trans h2 c1), b1 k' h _ h1]
  simp only [execOp, r.eval, hx, Option.map_none, Instr.sliceAt, Sem.run_bind, run_underlying ht, Result.andThen_ok, Instr.slice, e, hz, Sem.run_pure, subSl]
/-- with a third bound -/
theorem Dtu.slc3 {t e : TypeId} {sz m : Nat} {v : Value} {vs : List Value} {lo hi mx : Operand} {k1 k2 k3 : IntKind} {l h c3 : Nat} (ht : P.underlying t = some (.slice e)) (hz : ∀ w, (sizeOf e).run P w = .ok sz w) (hs : Sl E H sz v m vs) (hx : ev f x = v)
    (hlo : ev f lo = .int k1 (l : Int)) (hhi : ev f hi = .int k2 (h : Int)) (hmx : ev f mx = .int k3 (c3 : Int)) (h1 : l ≤ h) (h2 : h ≤ c3) (h3 : c3 ≤ m) :
    Dtu P n f E H ⟨d, .slice t x (some lo) (some hi) (some mx), ty, pos, aft, g⟩ (subSl v sz l h c3) := fun w0 s w a' r => by
  obtain ⟨c1, c2, a, hv⟩ := (hs w0 s).cap
  generalize capOf v = c at *
  subst hv
  have e : (Instr.sliceBounds true m c (some (.int k1 (l : Int))) (some (.int k2 (h : Int))) (some (.int k3 (c3 : Int)))).run P w = .ok (l, h, c3) w := by
    simp only [Instr.sliceBounds, Sem.run_bind, Sem.run_pure]
    rw [run_sliceBound _ _ _ _ _ (by omega) (by omega)]
    simp only [Result.andThen_ok]
    rw [run_sliceBound _ _ _ _ _ (by omega) (by omega)]
    simp only [Result.andThen_ok]
    rw [run_sliceBound _ _ _ _ _ (by omega) (by omega)]
    simp
  simp only [execOp, r.eval, hx, hlo, hhi, hmx, Option.map_some, Instr.sliceAt, Sem.run_bind, run_underlying ht, Result.andThen_ok, Instr.slice, e, hz, Sem.run_pure, subSl]
theorem Dtu.slc3' {t e : TypeId} {sz m : Nat} {v : Value} {vs : List Value} {hi mx : Operand} {k2 k3 : IntKind} {h c3 : Nat} (ht : P.underlying t = some (.slice e)) (hz : ∀ w, (sizeOf e).run P w = .ok sz w) (hs : Sl E H sz v m vs) (hx : ev f x = v)
    (hhi : ev f hi = .int k2 (h : Int)) (hmx : ev f mx = .int k3 (c3 : Int)) (h2 : h ≤ c3) (h3 : c3 ≤ m) :
    Dtu P n f E H ⟨d, .slice t x none (some hi) (some mx), ty, pos, aft, g⟩ (subSl v sz 0 h c3) := fun w0 s w a' r => by
  obtain ⟨c1, c2, a, hv⟩ := (hs w0 s).cap
  generalize capOf v = c at *
  subst hv
  have e : (Instr.sliceBounds true m c none (some (.int k2 (h : Int))) (some (.int k3 (c3 : Int)))).run P w = .ok (0, h, c3) w := by
    simp only [Instr.sliceBounds, Sem.run_bind, Sem.run_pure, Result.andThen_ok]
    rw [run_sliceBound _ _ _ _ _ (by omega) (by omega)]
    simp only [Result.andThen_ok]
    rw [run_sliceBound _ _ _ _ _ (by omega) (by omega)]
    simp
  simp only [execOp, r.eval, hx, hhi, hmx, Option.map_some, Option.map_none, Instr.sliceAt, Sem.run_bind, run_underlying ht, Result.andThen_ok, Instr.slice, e, hz, Sem.run_pure, subSl]

/-! ### a store into an owned slice -/
theorem Stp.storeS (i : Nat) {T t : TypeId} {sz m p : Nat} {v u : Value} {vs us : List Value} (hm : ∀ w, (sizeOf T).run P w = .ok us.length w) (hi : H[i]? = some (osl t sz v m vs)) (hx : ev f x = .pointer (some ⟨blkOf v, offOf v + p, none⟩)) (hy : ev f y = u) (hv : u.cells = us.toArray)
    (hl : p + us.length ≤ vs.length) (hpos : 0 < us.length) (h1 : us.all (·.oneCell') = true) (k : K undef (H.set i (osl t sz v m (vs.take p ++ us ++ vs.drop (p + us.length))))) : Stp false P n f E H ⟨d, .store T x y, ty, pos, aft, g⟩ K := fun w a r s => by
  rcases osl_cases (s.get hi) with ⟨a, rfl, rfl, rfl, _⟩ | ⟨b, cap, rest, rfl, g1, g2, g3, g4, s2⟩
  · simp only [List.length_nil] at hl; omega
  · have := (Stp.store (P := P) (n := n) (f := f) (E := E) (d := d) (ty := ty) (pos := pos) (aft := aft) (g := g) (H := own b (vs ++ rest) t :: H.eraseIdx i) (K := fun v H' => v = undef ∧ H' = own b (((vs ++ rest).take p) ++ us ++ (vs ++ rest).drop (p + us.length)) t :: H.eraseIdx i) 0 (off := p) hm (by rw [hx]; simp [blkOf, offOf]) hy hv rfl rfl (Nat.ble_eq_true_of_le (by simp; omega)) h1 (forceL_some _) rfl ⟨rfl, rfl⟩) w a r s2
    refine this.mono ?_
    rintro v' w' ⟨_, H', ⟨rfl, rfl⟩, s'⟩
    have e : ((vs ++ rest).take p) ++ us ++ (vs ++ rest).drop (p + us.length) = (vs.take p ++ us ++ vs.drop (p + us.length)) ++ rest := by
      rw [List.take_append_of_le_length (by omega), List.drop_append_of_le_length (by omega)]; simp only [List.append_assoc]
    rw [e] at s'
    have hlen : (vs.take p ++ us ++ vs.drop (p + us.length)).length = vs.length := by simp; omega
    exact ⟨fun e => (by cases e), _, k, St.put hi (osl_own (by rw [hlen]; exact g1) g2 g3 (by rw [List.length_append, hlen, ← List.length_append]; exact g4) s')⟩
end
end Go.Sx
