/- QNkc: CrcB, StoB, StoC, StoD, StoE, StoF, StoG, StoH, FilN, StoI, StoJ, StoK. -/
import Derived.Test.YtpmapedhigjalaaRka
import Derived.Test.YtpmapedhigjalaaRkb
import Derived.Test.YtpmapedhigjalaaRkc
import Derived.Test.YtpmapedhigjalaaRkd
section
/- crc: fill, More, Of. -/
namespace Go.Proofs.Ytpmapedhigjalaa
set_option maxRecDepth 100000
set_option maxHeartbeats 4000000
set_option linter.unusedVariables false
set_option linter.unusedSimpArgs false
open Go.Sx
/-- the table, its first entries made -/
def crTab (i : Nat) : List Nat := (List.range 256).map fun j => if j < i then crT j else 0
theorem putC_mk {a us c vs' : List Value} {off : Nat} {bs : List Value} (ha : a.length = off) (hb : bs.length = us.length) (h : vs' = a ++ us ++ c) : PutC (a ++ bs ++ c) off us vs' := by
  subst ha h
  refine ⟨by simp; omega, ?_⟩
  have e1 : (a ++ bs ++ c).take a.length = a := by rw [List.append_assoc, List.take_left]
  have e2 : (a ++ bs ++ c).drop (a.length + us.length) = c := by rw [← hb, ← List.length_append, List.drop_left]
  rw [e1, e2]
theorem list_at {α : Type} (l : List α) {i : Nat} (h : i < l.length) : ∃ a x c, l = a ++ x :: c ∧ a.length = i :=
  ⟨l.take i, l[i], l.drop (i + 1), by rw [← List.drop_eq_getElem_cons, List.take_append_drop], by simp; omega⟩
theorem set_at {α : Type} (a : List α) (x y : α) (c : List α) : (a ++ x :: c).set a.length y = a ++ y :: c := by simp
theorem xor32_n {x y : Nat} (hx : x < 2 ^ 32) (hy : y < 2 ^ 32) : ibit .xor .u32 (x : Int) (y : Int) = ((x ^^^ y : Nat) : Int) := by
  have e : ∀ v : Nat, BitVec.ofInt 32 (v : Int) = BitVec.ofNat 32 v := fun v => BitVec.ofInt_natCast ..
  show IntKind.u32.wrap ((BitVec.ofInt 32 (x : Int) ^^^ BitVec.ofInt 32 (y : Int)).toNat : Int) = _
  rw [e, e, wu32 (by omega) (by have := BitVec.isLt (BitVec.ofNat 32 x ^^^ BitVec.ofNat 32 y); omega), BitVec.toNat_xor, BitVec.toNat_ofNat, BitVec.toNat_ofNat, Nat.mod_eq_of_lt hx, Nat.mod_eq_of_lt hy]
theorem and32_1 {x : Nat} (hx : x < 2 ^ 32) : ibit .and .u32 (x : Int) 1 = ((x % 2 : Nat) : Int) := by
  have e : ∀ v : Nat, BitVec.ofInt 32 (v : Int) = BitVec.ofNat 32 v := fun v => BitVec.ofInt_natCast ..
  show IntKind.u32.wrap ((BitVec.ofInt 32 (x : Int) &&& BitVec.ofInt 32 ((1 : Nat) : Int)).toNat : Int) = _
  rw [e, e, wu32 (by omega) (by have := BitVec.isLt (BitVec.ofNat 32 x &&& BitVec.ofNat 32 1); omega), BitVec.toNat_and, BitVec.toNat_ofNat, BitVec.toNat_ofNat, Nat.mod_eq_of_lt hx, Nat.mod_eq_of_lt (by omega), Nat.and_one_is_mod]
theorem smC_put (d m : Int) (t : List Nat) (n : Int) {i : Nat} (x : Nat) (hl : t.length = 256) (hi : i < 256) : PutC (smC d m t n) (3 + i) [.int .u32 (x : Nat)] (smC d m (t.set i x) n) := by
  obtain ⟨a, y, c, rfl, rfl⟩ := list_at t (i := i) (by omega)
  rw [set_at]
  have := putC_mk (a := .int .u32 d :: .int .i32 m :: .int .u32 0 :: a.map fun x => Value.int .u32 (x : Nat)) (bs := [.int .u32 (y : Nat)]) (us := [.int .u32 (x : Nat)]) (c := (c.map fun x => Value.int .u32 (x : Nat)) ++ [.int .i64 n]) (off := 3 + a.length) (by simp; omega) rfl rfl
  simpa [smC] using this
theorem crTab_set {i : Nat} (h : i < 256) : (crTab i).set i (crT i) = crTab (i + 1) := by
  refine List.ext_getElem (by simp [crTab]) fun j h1 h2 => ?_
  rw [List.getElem_set]
  simp only [crTab, List.getElem_map, List.getElem_range]
  split
  · rename_i e; subst e; rw [if_pos (by omega)]
  · rename_i e
    by_cases hj : j < i
    · rw [if_pos hj, if_pos (by omega)]
    · rw [if_neg hj, if_neg (by omega)]
theorem fill_ok (E : Env) (b : Nat) : Does Try.prog 120 #[.pointer (some ⟨b, 0, none⟩)] E ([own b (smC 0 1 (crTab 0) 0) 195]) fun r H' => r = .tuple #[] ∧ H' = [own b (smC 0 1 (crTab 256) 0) 195] := by
  refine Does.go _ _ Try.func120 rfl Try.ntmps120 rfl rfl ?_
  skip
  refine Body.seq ?_
  refine Body.region ?_
  refine Ops.u (Dtu.mv (lk rfl)) rfl ?_
  refine Ops.nil ?_
  refine Then.next ?_
  refine Body.block ?_
  refine Body.loopL (γ := Nat) [0] rfl (fun i => [(4, .int .i64 (i : Nat))]) (fun i => [(0, own b (smC 0 1 (crTab i) 0) 195)]) (fun _ => rfl) (fun _ _ => rfl) (fun i => i ≤ 256) (fun i => 256 - i) (0) (Nat.zero_le _) ⟨rfl, trivial⟩ rfl ?_
  rintro i u hi
  by_cases hlt : i < 256
  · refine Body.seq ?_
    refine Body.region ?_
    refine Ops.u (Dtu.lss (lk rfl) (lk rfl)) rfl ?_
    refine Ops.nil ?_
    refine Then.next ?_
    refine Body.seq ?_
    refine Body.condP (lk rfl) (fun _ => ?_) (fun hn => absurd (by first | omega | assumption | decide) hn)
    refine Body.skip ?_
    refine Then.next ?_
    refine Body.seq ?_
    refine Body.block ?_
    refine Body.seq ?_
    refine Body.region ?_
    refine Ops.u (Dtu.mv (lk rfl)) rfl ?_
    refine Ops.u (Dtu.asg (lk rfl)) rfl ?_
    refine Ops.nil ?_
    refine Then.next ?_
    refine Body.seq ?_
    refine Body.region ?_
    refine Ops.u (Dtu.mv (lk rfl)) rfl ?_
    refine Ops.u (Dtu.cvt Try.underlying3 Try.underlying35 (lk rfl) (wu32 (by omega) (by omega))) rfl ?_
    refine Ops.u (Dtu.asg (lk rfl)) rfl ?_
    refine Ops.nil ?_
    refine Then.next ?_
    refine Body.seq ?_
    refine Body.seq ?_
    refine Body.region ?_
    refine Ops.u (Dtu.mv (lk rfl)) rfl ?_
    refine Ops.nil ?_
    refine Then.next ?_
    refine Body.block ?_
    refine Body.loopL (γ := Nat) [0, 2, 4] rfl (fun k => [(9, .int .i64 (k : Nat)), (3, .int .u32 (crN k i : Nat))]) (fun k => []) (fun _ => rfl) (fun _ _ => rfl) (fun k => k ≤ 8) (fun k => 8 - k) (0) (Nat.zero_le _) ⟨rfl, rfl, trivial⟩ rfl ?_
    rintro k u2 hk
    have hv : crN k i < 4294967296 := crN_lt k (by omega)
    by_cases hlk : k < 8
    · have h1 : ibit .and .u32 ((crN k i : Nat) : Int) 1 = ((crN k i % 2 : Nat) : Int) := and32_1 hv
      have h2 : ((crN k i : Nat) : Int).fdiv (2 ^ min (Int.toNat 1) IntKind.u32.bits) = ((crN k i / 2 : Nat) : Int) := by
        show Int.fdiv _ 2 = _
        rw [Int.fdiv_eq_ediv_of_nonneg _ (by decide)]; omega
      have h3 : ibit .xor .u32 ((crN k i / 2 : Nat) : Int) 3988292384 = ((crN k i / 2 ^^^ 3988292384 : Nat) : Int) := xor32_n (y := 3988292384) (by omega) (by decide)
      by_cases hp : crN k i % 2 = 1
      · have h4 : crN (k + 1) i = crN k i / 2 ^^^ 3988292384 := if_pos hp
        refine Body.seq ?_
        refine Body.region ?_
        refine Ops.u (Dtu.lss (lk rfl) (lk rfl)) rfl ?_
        refine Ops.nil ?_
        refine Then.next ?_
        refine Body.seq ?_
        refine Body.condP (lk rfl) (fun _ => ?_) (fun hn => absurd (by first | omega | assumption | decide) hn)
        refine Body.skip ?_
        refine Then.next ?_
        refine Body.seq ?_
        refine Body.block ?_
        refine Body.seq ?_
        refine Body.region ?_
        refine Ops.u (Dtu.mv (lk rfl)) rfl ?_
        refine Ops.u (Dtu.bit rfl (lk rfl) (lk rfl) (by with_reducible assumption)) rfl ?_
        refine Ops.u (Dtu.eql (lk rfl) (lk rfl)) rfl ?_
        refine Ops.nil ?_
        refine Then.next ?_
        refine Body.condP (lk rfl) (fun _ => ?_) (fun hn => absurd (by first | omega | assumption | decide) hn)
        refine Body.region ?_
        refine Ops.u (Dtu.mv (lk rfl)) rfl ?_
        refine Ops.u (Dtu.shr (lk rfl) (lk rfl) (by first | decide | omega) (by with_reducible assumption)) rfl ?_
        refine Ops.u (Dtu.bit rfl (lk rfl) (lk rfl) (by with_reducible assumption)) rfl ?_
        refine Ops.u (Dtu.asg (lk rfl)) rfl ?_
        refine Ops.nil ?_
        refine Blk.norm ?_
        refine Then.next ?_
        refine Body.region ?_
        refine Ops.u (Dtu.add (lk rfl) (lk rfl) (w64 (by omega) (by omega))) rfl ?_
        refine Ops.u (Dtu.mv (lk rfl)) rfl ?_
        refine Ops.nil ?_
        refine Round.goL [0] (k + 1) rfl ⟨rfl, by (try dsimp only); rw [h4]; try rfl, trivial⟩ rfl rfl hlk (by omega)
      · have h4 : crN (k + 1) i = crN k i / 2 := if_neg hp
        refine Body.seq ?_
        refine Body.region ?_
        refine Ops.u (Dtu.lss (lk rfl) (lk rfl)) rfl ?_
        refine Ops.nil ?_
        refine Then.next ?_
        refine Body.seq ?_
        refine Body.condP (lk rfl) (fun _ => ?_) (fun hn => absurd (by first | omega | assumption | decide) hn)
        refine Body.skip ?_
        refine Then.next ?_
        refine Body.seq ?_
        refine Body.block ?_
        refine Body.seq ?_
        refine Body.region ?_
        refine Ops.u (Dtu.mv (lk rfl)) rfl ?_
        refine Ops.u (Dtu.bit rfl (lk rfl) (lk rfl) (by with_reducible assumption)) rfl ?_
        refine Ops.u (Dtu.eql (lk rfl) (lk rfl)) rfl ?_
        refine Ops.nil ?_
        refine Then.next ?_
        refine Body.condP (lk rfl) (fun hy => absurd hy (by first | omega | assumption | decide)) (fun _ => ?_)
        refine Body.region ?_
        refine Ops.u (Dtu.mv (lk rfl)) rfl ?_
        refine Ops.u (Dtu.shr (lk rfl) (lk rfl) (by first | decide | omega) (by with_reducible assumption)) rfl ?_
        refine Ops.u (Dtu.asg (lk rfl)) rfl ?_
        refine Ops.nil ?_
        refine Blk.norm ?_
        refine Then.next ?_
        refine Body.region ?_
        refine Ops.u (Dtu.add (lk rfl) (lk rfl) (w64 (by omega) (by omega))) rfl ?_
        refine Ops.u (Dtu.mv (lk rfl)) rfl ?_
        refine Ops.nil ?_
        refine Round.goL [0] (k + 1) rfl ⟨rfl, by (try dsimp only); rw [h4]; try rfl, trivial⟩ rfl rfl hlk (by omega)
    · have h8 : k = 8 := by omega
      subst h8
      have hP := smC_put 0 1 (crTab i) 0 (crT i) (by simp [crTab]) hlt
      rw [crTab_set hlt] at hP
      refine Body.seq ?_
      refine Body.region ?_
      refine Ops.u (Dtu.lss (lk rfl) (lk rfl)) rfl ?_
      refine Ops.nil ?_
      refine Then.next ?_
      refine Body.seq ?_
      refine Body.condP (lk rfl) (fun hy => absurd hy (by first | omega | assumption | decide)) (fun _ => ?_)
      refine Body.exit ?_
      refine Then.exit ?_
      refine Round.exit ?_
      refine Blk.here ?_
      refine Then.next ?_
      refine Body.region ?_
      refine Ops.u (Dtu.mv (lk rfl)) rfl ?_
      refine Ops.u (Dtu.mv (lk rfl)) rfl ?_
      refine Ops.u (Dtu.mv (lk rfl)) rfl ?_
      refine Ops.u (Dtu.nilck (lk rfl)) rfl ?_
      refine Ops.u (Dtu.fld fa195_1 (lk rfl)) rfl ?_
      refine Ops.u (Dtu.ixa (i := (i)) Try.underlying190 Try.sizeOf35 (lk rfl) (lk rfl) (by omega) (by omega)) rfl ?_
      refine Ops.e (Stp.storeC 0 hP (by omega) Try.sizeOf35 (lk rfl) (lk rfl) rfl rfl rfl rfl rfl ?_)
      refine Ops.nil ?_
      refine Blk.norm ?_
      refine Then.next ?_
      refine Body.region ?_
      refine Ops.u (Dtu.add (lk rfl) (lk rfl) (w64 (by omega) (by omega))) rfl ?_
      refine Ops.u (Dtu.mv (lk rfl)) rfl ?_
      refine Ops.nil ?_
      refine Round.goL [0] (i + 1) rfl ⟨rfl, trivial⟩ rfl rfl hlt (by omega)
  · have h8 : i = 256 := by omega
    subst h8
    refine Body.seq ?_
    refine Body.region ?_
    refine Ops.u (Dtu.lss (lk rfl) (lk rfl)) rfl ?_
    refine Ops.nil ?_
    refine Then.next ?_
    refine Body.seq ?_
    refine Body.condP (lk rfl) (fun hy => absurd hy (by first | omega | assumption | decide)) (fun _ => ?_)
    refine Body.exit ?_
    refine Then.exit ?_
    refine Round.exit ?_
    refine Blk.here ?_
    exact ⟨.inl rfl, _, pk [0] rfl, rfl, rfl⟩
def crZ (v : Nat) (bs : List Int) : Nat := crF v (bs.map Int.toNat)
theorem xor8_n {x y : Nat} (hx : x < 2 ^ 8) (hy : y < 2 ^ 8) : ibit .xor .u8 (x : Int) (y : Int) = ((x ^^^ y : Nat) : Int) := by
  have e : ∀ v : Nat, BitVec.ofInt 8 (v : Int) = BitVec.ofNat 8 v := fun v => BitVec.ofInt_natCast ..
  show IntKind.u8.wrap ((BitVec.ofInt 8 (x : Int) ^^^ BitVec.ofInt 8 (y : Int)).toNat : Int) = _
  rw [e, e, wu8 (by omega) (by have := BitVec.isLt (BitVec.ofNat 8 x ^^^ BitVec.ofNat 8 y); omega), BitVec.toNat_xor, BitVec.toNat_ofNat, BitVec.toNat_ofNat, Nat.mod_eq_of_lt hx, Nat.mod_eq_of_lt hy]
theorem wrap8_n (x : Nat) : IntKind.u8.wrap (x : Int) = ((x % 256 : Nat) : Int) := by
  show (x : Int) % 256 = _
  omega
theorem smC_tab (d m n : Int) {j : Nat} (hj : j < 256) : (smC d m (crTab 256) n)[3 + j]? = some (.int .u32 (crT j : Nat)) := by
  unfold smC
  rw [List.getElem?_append_left (by simp [crTab]; omega), show 3 + j = j + 1 + 1 + 1 by omega]
  simp only [List.getElem?_cons_succ, List.getElem?_map, crTab]
  rw [List.getElem?_range hj]
  simp [hj]
theorem crZ_step {v : Nat} {bs : List Int} {k : Nat} (h : k < bs.length) : crZ v (bs.take (k + 1)) = crS (crZ v (bs.take k)) bs[k]!.toNat := by
  rw [crZ, List.take_succ_eq_append_getElem h, List.map_append, crF, List.foldl_append, getElem!_pos bs k h]; rfl
theorem crZ_lt {bs : List Int} (hb : ∀ i, i < bs.length → 0 ≤ bs[i]! ∧ bs[i]! < 256) (k : Nat) : crZ 4294967295 (bs.take k) < 4294967296 := by
  refine crF_lt (fun c hc => ?_) (by omega)
  obtain ⟨x, hx, rfl⟩ := List.mem_map.1 hc
  obtain ⟨i, hi, rfl⟩ := List.getElem_of_mem (List.mem_of_mem_take hx)
  have := hb i hi
  rw [getElem!_pos bs i hi] at this
  omega
theorem more_ok (E : Env) (b : Nat) (v : Value) (bs : List Int) (hs : Sl E [] 1 v bs.length (bs.map (.int .u8))) (hb : ∀ i, i < bs.length → 0 ≤ bs[i]! ∧ bs[i]! < 256) : Does Try.prog 114 #[.pointer (some ⟨b, 0, none⟩), .int .u32 0, v] E ([own b (smC 0 0 (crTab 0) 0) 195]) fun r H' => r = .int .u32 (crOf (bs.map Int.toNat) : Nat) ∧ H' = [] := by
  refine Does.pure hs.up.len fun hlen => ?_
  refine Does.go _ _ Try.func114 rfl Try.ntmps114 rfl rfl ?_
  skip
  refine Body.seq ?_
  refine Body.region ?_
  refine Ops.u (Dtu.asg (lk rfl)) rfl ?_
  refine Ops.nil ?_
  refine Then.next ?_
  refine Body.seq ?_
  refine Body.seq ?_
  refine Body.region ?_
  refine Ops.u (Dtu.mv (lk rfl)) rfl ?_
  refine Ops.u (Dtu.eqNil Try.underlying178 (lk rfl) (lk rfl)) rfl ?_
  refine Ops.nil ?_
  refine Then.next ?_
  refine Body.condF (lk rfl) ?_
  refine Body.skip ?_
  refine Then.next ?_
  refine Body.seq ?_
  refine Body.region ?_
  refine Ops.u (Dtu.mv (lk rfl)) rfl ?_
  refine Ops.u (Dtu.nilck (lk rfl)) rfl ?_
  refine Ops.u (Dtu.fld fa195_0 (lk rfl)) rfl ?_
  refine Ops.u (Dtu.mv (lk rfl)) rfl ?_
  refine Ops.u (Dtu.mkfF (lks rfl)) rfl ?_
  refine Ops.s (Stp.callOwn [0] rfl rfl Try.call119 (lks rfl) (fun E' le hat => once_do (fill_ok E' _)) ?_) rfl
  rintro _ _ ⟨rfl, rfl⟩
  refine Ops.nil ?_
  refine Then.next ?_
  refine Body.seq ?_
  refine Body.region ?_
  refine Ops.u (Dtu.mv (lk rfl)) rfl ?_
  refine Ops.u (Dtu.nilck (lk rfl)) rfl ?_
  refine Ops.u (Dtu.fld fa195_2 (lk rfl)) rfl ?_
  refine Ops.s (Stp.callOwn [0] rfl rfl Try.call121 (lks rfl) (fun E' le hat => runs_add (by simp [crTab])) ?_) rfl
  rintro _ _ ⟨rfl, rfl⟩
  refine Ops.nil ?_
  refine Then.next ?_
  refine Body.seq ?_
  refine Body.region ?_
  refine Ops.u (Dtu.mv (lk rfl)) rfl ?_
  refine Ops.u (Dtu.cpl (lk rfl) rfl) rfl ?_
  refine Ops.u (Dtu.asg (lk rfl)) rfl ?_
  refine Ops.nil ?_
  refine Then.next ?_
  refine Body.seq ?_
  refine Body.seq ?_
  refine Body.region ?_
  refine Ops.u (Dtu.mv (lk rfl)) rfl ?_
  refine Ops.u (Dtu.lenS Try.underlying73 (Sl.up hs) (lk rfl)) rfl ?_
  refine Ops.u (Dtu.mv (lk rfl)) rfl ?_
  refine Ops.nil ?_
  refine Then.next ?_
  refine Body.block ?_
  refine Body.loopL (γ := Nat) [0, 1, 2, 6, 26, 27] rfl (fun k => [(28, .int .i64 (k : Nat)), (7, .int .u32 (crZ 4294967295 (bs.take k) : Nat))]) (fun k => []) (fun _ => rfl) (fun _ _ => rfl) (fun k => k ≤ bs.length) (fun k => bs.length - k) (0) (Nat.zero_le _) ⟨rfl, rfl, trivial⟩ rfl ?_
  rintro k u hk
  by_cases hlt : k < bs.length
  · have hV := crZ_lt hb k
    have hst := crZ_step (v := 4294967295) hlt
    obtain ⟨c, hc⟩ := Int.eq_ofNat_of_zero_le (hb k hlt).1
    have hc2 := (hb k hlt).2
    rw [hc, Int.toNat_natCast] at hst
    generalize crZ 4294967295 (bs.take k) = V at *
    have h1 := wrap8_n V
    have h2 : ibit .xor .u8 ((V % 256 : Nat) : Int) bs[k]! = ((V % 256 ^^^ c : Nat) : Int) := by rw [hc]; exact xor8_n (by omega) (by omega)
    have hx : V % 256 ^^^ c < 256 := xor256 (by omega) (by omega)
    have h3 := smC_tab 1 0 1 hx
    have h4 : ((V : Nat) : Int).fdiv (2 ^ min (Int.toNat 8) IntKind.u32.bits) = ((V / 256 : Nat) : Int) := by
      show Int.fdiv _ 256 = _
      rw [Int.fdiv_eq_ediv_of_nonneg _ (by decide)]; omega
    have h5 : ibit .xor .u32 ((V / 256 : Nat) : Int) ((crT (V % 256 ^^^ c) : Nat) : Int) = ((crS V c : Nat) : Int) := xor32_n (by omega) (crN_lt 8 (by omega))
    refine Body.seq ?_
    refine Body.region ?_
    refine Ops.u (Dtu.lss (lk rfl) (lk rfl)) rfl ?_
    refine Ops.nil ?_
    refine Then.next ?_
    refine Body.seq ?_
    refine Body.condP (lk rfl) (fun _ => ?_) (fun hn => absurd (by first | omega | assumption | decide) hn)
    refine Body.skip ?_
    refine Then.next ?_
    refine Body.seq ?_
    refine Body.block ?_
    refine Body.seq ?_
    refine Body.region ?_
    refine Ops.u (Dtu.ix (i := (k)) Try.underlying73 Try.sizeOf5 (Sl.up hs) (lk rfl) (lk rfl) (by omega) (by omega)) rfl ?_
    refine Ops.d (Det.ld Try.isAgg5 (lk rfl) (Rd.sl (Sl.up hs) (gm (by omega)))) rfl ?_
    refine Ops.u (Dtu.asg (lk rfl)) rfl ?_
    refine Ops.nil ?_
    refine Then.next ?_
    refine Body.region ?_
    refine Ops.u (Dtu.mv (lk rfl)) rfl ?_
    refine Ops.u (Dtu.shr (lk rfl) (lk rfl) (by first | decide | omega) (by with_reducible assumption)) rfl ?_
    refine Ops.u (Dtu.mv (lk rfl)) rfl ?_
    refine Ops.u (Dtu.mv (lk rfl)) rfl ?_
    refine Ops.u (Dtu.cvt Try.underlying35 Try.underlying5 (lk rfl) (by with_reducible assumption)) rfl ?_
    refine Ops.u (Dtu.mv (lk rfl)) rfl ?_
    refine Ops.u (Dtu.bit rfl (lk rfl) (lk rfl) (by with_reducible assumption)) rfl ?_
    refine Ops.u (Dtu.nilck (lk rfl)) rfl ?_
    refine Ops.u (Dtu.fld fa195_1 (lk rfl)) rfl ?_
    refine Ops.u (Dtu.ixa (i := (V % 256 ^^^ c)) Try.underlying190 Try.sizeOf35 (lk rfl) (lk rfl) (by omega) (by omega)) rfl ?_
    refine Ops.d (Det.ld Try.isAgg35 (lk rfl) (Rd.ow 0 rfl (cellEq h3 (by omega)))) rfl ?_
    refine Ops.u (Dtu.bit rfl (lk rfl) (lk rfl) (by with_reducible assumption)) rfl ?_
    refine Ops.u (Dtu.asg (lk rfl)) rfl ?_
    refine Ops.nil ?_
    refine Blk.norm ?_
    refine Then.next ?_
    refine Body.region ?_
    refine Ops.u (Dtu.add (lk rfl) (lk rfl) (w64 (by omega) (by omega))) rfl ?_
    refine Ops.u (Dtu.mv (lk rfl)) rfl ?_
    refine Ops.nil ?_
    refine Round.goL [0] (k + 1) rfl ⟨rfl, by (try dsimp only); rw [hst]; try rfl, trivial⟩ rfl rfl hlt (by omega)
  · have hk2 : k = bs.length := by omega
    subst hk2
    rw [List.take_length]
    have hV := crZ_lt hb bs.length
    rw [List.take_length] at hV
    have h6 : ibit .xor .u32 (if IntKind.u32.signed = true then -1 else IntKind.u32.max) ((crZ 4294967295 bs : Nat) : Int) = ((crOf (bs.map Int.toNat) : Nat) : Int) := by
      show ibit .xor .u32 ((4294967295 : Nat) : Int) _ = _
      rw [xor32_n (by decide) hV, Nat.xor_comm]; rfl
    refine Body.seq ?_
    refine Body.region ?_
    refine Ops.u (Dtu.lss (lk rfl) (lk rfl)) rfl ?_
    refine Ops.nil ?_
    refine Then.next ?_
    refine Body.seq ?_
    refine Body.condP (lk rfl) (fun hy => absurd hy (by first | omega | assumption | decide)) (fun _ => ?_)
    refine Body.exit ?_
    refine Then.exit ?_
    refine Round.exit ?_
    refine Blk.here ?_
    refine Then.next ?_
    refine Body.seq ?_
    refine Body.region ?_
    refine Ops.u (Dtu.mv (lk rfl)) rfl ?_
    refine Ops.u (Dtu.cpl (lk rfl) rfl) rfl ?_
    refine Ops.u (Dtu.asg (lk rfl)) rfl ?_
    refine Ops.nil ?_
    refine Then.next ?_
    refine Body.ret ?_
    (exact ⟨.inr rfl, _, pk [] rfl, congrArg (Value.int .u32) h6, rfl⟩)
theorem crc_ok (E : Env) (v : Value) (bs : List Int) (hs : Sl E [] 1 v bs.length (bs.map (.int .u8))) (hb : ∀ i, i < bs.length → 0 ≤ bs[i]! ∧ bs[i]! < 256) : Does Try.prog 106 #[v] E ([]) fun r H' => r = .int .u32 (crOf (bs.map Int.toNat) : Nat) ∧ H' = [] := by
  refine Does.go _ _ Try.func106 rfl Try.ntmps106 rfl rfl ?_
  skip
  refine Body.seq ?_
  refine Body.region ?_
  refine Ops.u (Dtu.asg (lk rfl)) rfl ?_
  refine Ops.nil ?_
  refine Then.next ?_
  refine Body.seq ?_
  refine Body.region ?_
  refine Ops.u (Dtu.build ty195 pl195 (lkp rfl) rfl rfl) rfl ?_
  refine Ops.s (Stp.box (lk rfl) rfl (fun b5 => ?_)) rfl
  refine Ops.u (Dtu.asg (lk rfl)) rfl ?_
  refine Ops.nil ?_
  refine Then.next ?_
  refine Body.seq ?_
  refine Body.region ?_
  refine Ops.u (Dtu.mv (lk rfl)) rfl ?_
  refine Ops.u (Dtu.mv (lk rfl)) rfl ?_
  refine Ops.s (Stp.callOwn [0] rfl rfl Try.call114 (lks rfl) (fun E' le hat => more_ok E' _ _ bs (by first | exact Sl.mono (by assumption) le | exact Sl.hatI hat 0 rfl | exact Sl.hatI hat 1 rfl | exact Sl.hatI hat 2 rfl | exact Sl.hatI hat 3 rfl | exact Sl.hatI hat 4 rfl | exact Sl.hatI hat 5 rfl | exact Sl.hatI hat 6 rfl | exact Sl.hatI hat 7 rfl | exact Sl.hatI hat 8 rfl | exact Sl.hatI hat 9 rfl | exact Sl.hatI hat 10 rfl | exact Sl.hatI hat 11 rfl | exact Sl.hatI hat 12 rfl | exact Sl.hatI hat 13 rfl | exact Sl.hatI hat 14 rfl | exact Sl.hatI hat 15 rfl | exact Sl.hatW hat 0 rfl | exact Sl.hatW hat 1 rfl | exact Sl.hatW hat 2 rfl | exact Sl.hatW hat 3 rfl | exact Sl.hatW hat 4 rfl | exact Sl.hatW hat 5 rfl | exact Sl.hatW hat 6 rfl | exact Sl.hatW hat 7 rfl | exact Sl.hatW hat 8 rfl | exact Sl.hatW hat 9 rfl) hb) ?_) rfl
  rintro _ _ ⟨rfl, rfl⟩
  refine Ops.u (Dtu.asg (lk rfl)) rfl ?_
  refine Ops.nil ?_
  refine Then.next ?_
  refine Body.ret ?_
  exact ⟨.inr rfl, _, pk [] rfl, rfl, rfl⟩
end Go.Proofs.Ytpmapedhigjalaa
end
section
/- store: a file in memory; sound. -/
namespace Go.Proofs.Ytpmapedhigjalaa
set_option maxRecDepth 100000
set_option maxHeartbeats 4000000
set_option linter.unusedVariables false
set_option linter.unusedSimpArgs false
open Go.Sx
/-- a chunk that was written: its bytes now, and the sum that they had -/
structure Kc where
  i : Int
  d : List Int
  s : Nat
/-- in memory -/
structure Ch where
  k : Kc
  v : Value
def Ch.own (c : Ch) : HProp := osl 5 1 c.v c.k.d.length (c.k.d.map (.int .u8))
def Ch.val (c : Ch) : Value := .agg #[c.v, .int .u32 (c.k.s : Nat)]
def Kc.good (c : Kc) : Bool := decide (crOf (c.d.map Int.toNat) = c.s)
def chm (l : List Ch) : ML := l.map fun c => (c.k.i, c.val)
def cget : List Kc → Int → Option Kc
  | [], _ => none
  | c :: l, i => if i = c.i then some c else cget l i
def cput : List Kc → Kc → List Kc
  | [], c => [c]
  | x :: l, c => if c.i = x.i then c :: l else x :: cput l c
def hput : List Ch → Ch → List Ch
  | [], c => [c]
  | x :: l, c => if c.k.i = x.k.i then c :: l else x :: hput l c
theorem hput_k (l : List Ch) (c : Ch) : (hput l c).map Ch.k = cput (l.map Ch.k) c.k := by
  induction l with
  | nil => rfl
  | cons x l ih =>
    simp only [hput, cput, List.map_cons]
    split
    · rfl
    · rw [List.map_cons, ih]
theorem hput_m (l : List Ch) (c : Ch) : mput (chm l) c.k.i c.val = chm (hput l c) := by
  induction l with
  | nil => rfl
  | cons x l ih =>
    simp only [chm, hput, mput, List.map_cons]
    split
    · rename_i h; rw [List.map_cons, h]
    · rw [List.map_cons]; exact congrArg _ ih
theorem chm_none {l : List Ch} {i : Int} (h : cget (l.map Ch.k) i = none) : mget (chm l) i = none := by
  induction l with
  | nil => rfl
  | cons x l ih =>
    simp only [List.map_cons, cget] at h
    simp only [chm, List.map_cons, mget]
    split at h
    · cases h
    · rename_i hn; rw [if_neg hn]; exact ih h
theorem chm_some {l : List Ch} {i : Int} {k : Kc} (h : cget (l.map Ch.k) i = some k) : ∃ A c C, l = A ++ c :: C ∧ c.k = k ∧ c.k.i = i ∧ mget (chm l) i = some c.val := by
  induction l with
  | nil => cases h
  | cons x l ih =>
    simp only [List.map_cons, cget] at h
    simp only [chm, List.map_cons, mget]
    split at h
    · rename_i hn
      exact ⟨[], x, l, rfl, Option.some.inj h, hn.symm, by rw [if_pos hn]⟩
    · rename_i hn
      obtain ⟨A, c, C, rfl, h1, h2, h3⟩ := ih h
      exact ⟨x :: A, c, C, rfl, h1, h2, by rw [if_neg hn]; exact h3⟩
/-- one more: those that it takes the place of are gone -/
theorem hput_sub (l : List Ch) (c : Ch) : ∃ M, (c :: l).Perm M ∧ (hput l c).Sublist M := by
  induction l with
  | nil => exact ⟨[c], List.Perm.refl _, List.Sublist.refl _⟩
  | cons x l ih =>
    simp only [hput]
    split
    · exact ⟨c :: x :: l, List.Perm.refl _, (List.sublist_cons_self x l).cons_cons c⟩
    · obtain ⟨M, h1, h2⟩ := ih
      exact ⟨x :: M, (List.Perm.swap _ _ _).trans (h1.cons x), h2.cons_cons x⟩
theorem hput_own {E : Env} {l : List Ch} {c : Ch} {H : List HProp} {w : World} (s : St E (c.own :: many (l.map Ch.own) :: H) w) : St E (many ((hput l c).map Ch.own) :: H) w := by
  obtain ⟨M, h1, h2⟩ := hput_sub l c
  exact poolSub (h2.map Ch.own) (poolPerm (h1.map Ch.own) (poolCons s))
/-- a file -/
structure Fi where
  id : Int
  nm : ByteArray
  sz : Int
  sm : Nat → Int
  cs : List Kc
structure Fi.Ok (F : Fi) : Prop where
  r : infoR F.id F.nm F.sz = true
  cs : ∀ c ∈ F.cs, 0 ≤ c.i ∧ c.i < chZ F.sz ∧ c.d.length = lenZ F.sz c.i ∧ Byt c.d
def Fi.good (F : Fi) (i : Int) : Bool := match cget F.cs i with
  | some c => c.good
  | none => false
theorem cget_mem {l : List Kc} {i : Int} {c : Kc} (h : cget l i = some c) : c ∈ l ∧ c.i = i := by
  induction l with
  | nil => cases h
  | cons x l ih =>
    simp only [cget] at h
    split at h
    · rename_i hn; obtain rfl := Option.some.inj h; exact ⟨.head _, hn.symm⟩
    · obtain ⟨h1, h2⟩ := ih h; exact ⟨.tail _ h1, h2⟩
/-- what owns a file -/
def filA (b : Nat) (F : Fi) (a : Nat × List Ch) : List HProp := match a with
  | (y, cs) => [own b (.int .u64 F.id :: .string F.nm :: .int .i64 F.sz :: .int .u8 (F.sm 0) :: .int .u8 (F.sm 1) :: .int .u8 (F.sm 2) :: .int .u8 (F.sm 3) :: .int .u8 (F.sm 4) :: .int .u8 (F.sm 5) :: .int .u8 (F.sm 6) :: .int .u8 (F.sm 7) :: .int .u8 (F.sm 8) :: .int .u8 (F.sm 9) :: .int .u8 (F.sm 10) :: .int .u8 (F.sm 11) :: .int .u8 (F.sm 12) :: .int .u8 (F.sm 13) :: .int .u8 (F.sm 14) :: .int .u8 (F.sm 15) :: .int .u8 (F.sm 16) :: .int .u8 (F.sm 17) :: .int .u8 (F.sm 18) :: .int .u8 (F.sm 19) :: .int .u8 (F.sm 20) :: .int .u8 (F.sm 21) :: .int .u8 (F.sm 22) :: .int .u8 (F.sm 23) :: .int .u8 (F.sm 24) :: .int .u8 (F.sm 25) :: .int .u8 (F.sm 26) :: .int .u8 (F.sm 27) :: .int .u8 (F.sm 28) :: .int .u8 (F.sm 29) :: .int .u8 (F.sm 30) :: .int .u8 (F.sm 31) :: .map (some y) :: []) 158, omp .i64 y (chm cs), many (cs.map Ch.own)]
def filP (b : Nat) (F : Fi) : HProp := exO (fun a : Nat × List Ch => a.2.map Ch.k = F.cs ∧ F.Ok) (filA b F)
theorem filAt {E : Env} {b : Nat} {F : Fi} (h : At (filP b F) E) : ∃ y cs, cs.map Ch.k = F.cs ∧ F.Ok ∧ At (own b (.int .u64 F.id :: .string F.nm :: .int .i64 F.sz :: .int .u8 (F.sm 0) :: .int .u8 (F.sm 1) :: .int .u8 (F.sm 2) :: .int .u8 (F.sm 3) :: .int .u8 (F.sm 4) :: .int .u8 (F.sm 5) :: .int .u8 (F.sm 6) :: .int .u8 (F.sm 7) :: .int .u8 (F.sm 8) :: .int .u8 (F.sm 9) :: .int .u8 (F.sm 10) :: .int .u8 (F.sm 11) :: .int .u8 (F.sm 12) :: .int .u8 (F.sm 13) :: .int .u8 (F.sm 14) :: .int .u8 (F.sm 15) :: .int .u8 (F.sm 16) :: .int .u8 (F.sm 17) :: .int .u8 (F.sm 18) :: .int .u8 (F.sm 19) :: .int .u8 (F.sm 20) :: .int .u8 (F.sm 21) :: .int .u8 (F.sm 22) :: .int .u8 (F.sm 23) :: .int .u8 (F.sm 24) :: .int .u8 (F.sm 25) :: .int .u8 (F.sm 26) :: .int .u8 (F.sm 27) :: .int .u8 (F.sm 28) :: .int .u8 (F.sm 29) :: .int .u8 (F.sm 30) :: .int .u8 (F.sm 31) :: .map (some y) :: []) 158) E ∧ Mp E [] .i64 y (chm cs) ∧ At (many (cs.map Ch.own)) E := by
  obtain ⟨⟨y, cs⟩, ⟨h1, h2⟩, h3⟩ := exO_at h
  exact ⟨y, cs, h1, h2, h3 _ (.head _), Mp.at (h3 _ (.tail _ (.head _))), h3 _ (.tail _ (.tail _ (.head _)))⟩
theorem sound_n (E : Env) (b y : Nat) (F : Fi) (i : Int) (l : List Ch) (hA : At (own b (.int .u64 F.id :: .string F.nm :: .int .i64 F.sz :: .int .u8 (F.sm 0) :: .int .u8 (F.sm 1) :: .int .u8 (F.sm 2) :: .int .u8 (F.sm 3) :: .int .u8 (F.sm 4) :: .int .u8 (F.sm 5) :: .int .u8 (F.sm 6) :: .int .u8 (F.sm 7) :: .int .u8 (F.sm 8) :: .int .u8 (F.sm 9) :: .int .u8 (F.sm 10) :: .int .u8 (F.sm 11) :: .int .u8 (F.sm 12) :: .int .u8 (F.sm 13) :: .int .u8 (F.sm 14) :: .int .u8 (F.sm 15) :: .int .u8 (F.sm 16) :: .int .u8 (F.sm 17) :: .int .u8 (F.sm 18) :: .int .u8 (F.sm 19) :: .int .u8 (F.sm 20) :: .int .u8 (F.sm 21) :: .int .u8 (F.sm 22) :: .int .u8 (F.sm 23) :: .int .u8 (F.sm 24) :: .int .u8 (F.sm 25) :: .int .u8 (F.sm 26) :: .int .u8 (F.sm 27) :: .int .u8 (F.sm 28) :: .int .u8 (F.sm 29) :: .int .u8 (F.sm 30) :: .int .u8 (F.sm 31) :: .map (some y) :: []) 158) E) (hM : Mp E [] .i64 y (chm l)) (hn : mget (chm l) i = none) : Does Try.prog 107 #[.pointer (some ⟨b, 0, none⟩), .int .i64 i] E ([]) fun r H' => r = .bool false ∧ H' = [] := by
  refine Does.go _ _ Try.func107 rfl Try.ntmps107 rfl rfl ?_
  skip
  refine Body.seq ?_
  refine Body.region ?_
  refine Ops.u (Dtu.asg (lk rfl)) rfl ?_
  refine Ops.nil ?_
  refine Then.next ?_
  refine Body.seq ?_
  refine Body.region ?_
  refine Ops.u (Dtu.mv (lk rfl)) rfl ?_
  refine Ops.u (Dtu.nilck (lk rfl)) rfl ?_
  refine Ops.u (Dtu.fld fa158_1 (lk rfl)) rfl ?_
  refine Ops.d (Det.ld Try.isAgg156 (lk rfl) (Rd.env (own_at hA rfl))) rfl ?_
  refine Ops.u (Dtu.mv (lk rfl)) rfl ?_
  refine Ops.d (Det.look2N Try.underlying156 Try.underlying3 (Mp.up hM) (lk rfl) (lk rfl) (by with_reducible assumption) zv166) rfl ?_
  refine Ops.u (Dtu.mv (lk rfl)) rfl ?_
  refine Ops.u (Dtu.ext (lk rfl) rfl) rfl ?_
  refine Ops.u (Dtu.ext (lk rfl) rfl) rfl ?_
  refine Ops.s (Stp.alloc ty166 (fun b5 => ?_)) rfl
  refine Ops.e (Stp.store 0 Try.sizeOf166 (lk rfl) (lk rfl) rfl rfl rfl rfl rfl rfl rfl ?_)
  refine Ops.u (Dtu.asg (lk rfl)) rfl ?_
  refine Ops.nil ?_
  refine Then.next ?_
  refine Body.seq ?_
  refine Body.draw mixed ?_
  refine AB.u 0 rfl (by decide +kernel) (Dtu.mv (lk rfl)) rfl ?_
  refine AB.u 1 rfl (by decide +kernel) (Dtu.mv (lk rfl)) rfl ?_
  refine AB.gn 2 rfl (by decide +kernel) rfl rfl rfl rfl rfl ?_
  refine AB.gn 3 rfl (by decide +kernel) rfl rfl rfl rfl rfl ?_
  refine AB.gn 4 rfl (by decide +kernel) rfl rfl rfl rfl rfl ?_
  refine AB.gn 5 rfl (by decide +kernel) rfl rfl rfl rfl rfl ?_
  refine AB.gn 6 rfl (by decide +kernel) rfl rfl rfl rfl rfl ?_
  refine AB.gn 7 rfl (by decide +kernel) rfl rfl rfl rfl rfl ?_
  refine AB.u 8 rfl (by decide +kernel) (Dtu.pickF (lk rfl) (lk rfl)) rfl ?_
  refine AB.u 9 rfl (by decide +kernel) (Dtu.asg (lk rfl)) rfl ?_
  refine AB.done (by decide +kernel) ?_
  refine Then.next ?_
  refine Body.ret ?_
  exact ⟨.inr rfl, _, pk [] rfl, rfl, rfl⟩
theorem sound_y (E : Env) (b y : Nat) (F : Fi) (i : Int) (l : List Ch) (v : Value) (d : List Int) (s : Nat) (hA : At (own b (.int .u64 F.id :: .string F.nm :: .int .i64 F.sz :: .int .u8 (F.sm 0) :: .int .u8 (F.sm 1) :: .int .u8 (F.sm 2) :: .int .u8 (F.sm 3) :: .int .u8 (F.sm 4) :: .int .u8 (F.sm 5) :: .int .u8 (F.sm 6) :: .int .u8 (F.sm 7) :: .int .u8 (F.sm 8) :: .int .u8 (F.sm 9) :: .int .u8 (F.sm 10) :: .int .u8 (F.sm 11) :: .int .u8 (F.sm 12) :: .int .u8 (F.sm 13) :: .int .u8 (F.sm 14) :: .int .u8 (F.sm 15) :: .int .u8 (F.sm 16) :: .int .u8 (F.sm 17) :: .int .u8 (F.sm 18) :: .int .u8 (F.sm 19) :: .int .u8 (F.sm 20) :: .int .u8 (F.sm 21) :: .int .u8 (F.sm 22) :: .int .u8 (F.sm 23) :: .int .u8 (F.sm 24) :: .int .u8 (F.sm 25) :: .int .u8 (F.sm 26) :: .int .u8 (F.sm 27) :: .int .u8 (F.sm 28) :: .int .u8 (F.sm 29) :: .int .u8 (F.sm 30) :: .int .u8 (F.sm 31) :: .map (some y) :: []) 158) E) (hM : Mp E [] .i64 y (chm l)) (hn : mget (chm l) i = some (.agg #[v, .int .u32 (s : Nat)])) (hc : Sl E [] 1 v d.length (d.map (.int .u8))) (hb : Byt d) : Does Try.prog 107 #[.pointer (some ⟨b, 0, none⟩), .int .i64 i] E ([]) fun r H' => r = .bool (decide (crOf (d.map Int.toNat) = s)) ∧ H' = [] := by
  refine Does.pure (Sl.shape hc) fun ⟨va, vc, hv⟩ => ?_
  subst hv
  refine Does.go _ _ Try.func107 rfl Try.ntmps107 rfl rfl ?_
  skip
  have e : decide (((crOf (d.map Int.toNat) : Nat) : Int) = (s : Int)) = decide (crOf (d.map Int.toNat) = s) := decide_eq_decide.2 Int.ofNat_inj
  refine Body.seq ?_
  refine Body.region ?_
  refine Ops.u (Dtu.asg (lk rfl)) rfl ?_
  refine Ops.nil ?_
  refine Then.next ?_
  refine Body.seq ?_
  refine Body.region ?_
  refine Ops.u (Dtu.mv (lk rfl)) rfl ?_
  refine Ops.u (Dtu.nilck (lk rfl)) rfl ?_
  refine Ops.u (Dtu.fld fa158_1 (lk rfl)) rfl ?_
  refine Ops.d (Det.ld Try.isAgg156 (lk rfl) (Rd.env (own_at hA rfl))) rfl ?_
  refine Ops.u (Dtu.mv (lk rfl)) rfl ?_
  refine Ops.d (Det.look2Y Try.underlying156 Try.underlying3 (Mp.up hM) (lk rfl) (lk rfl) (by with_reducible assumption)) rfl ?_
  refine Ops.u (Dtu.mv (lk rfl)) rfl ?_
  refine Ops.u (Dtu.ext (lk rfl) rfl) rfl ?_
  refine Ops.u (Dtu.ext (lk rfl) rfl) rfl ?_
  refine Ops.s (Stp.alloc ty166 (fun b5 => ?_)) rfl
  refine Ops.e (Stp.store 0 Try.sizeOf166 (lk rfl) (lk rfl) rfl rfl rfl rfl rfl rfl rfl ?_)
  refine Ops.u (Dtu.asg (lk rfl)) rfl ?_
  refine Ops.nil ?_
  refine Then.next ?_
  refine Body.seq ?_
  refine Body.draw mixed ?_
  refine AB.u 0 rfl (by decide +kernel) (Dtu.mv (lk rfl)) rfl ?_
  refine AB.u 1 rfl (by decide +kernel) (Dtu.mv (lk rfl)) rfl ?_
  refine AB.gu 2 rfl (by decide +kernel) rfl rfl rfl (Dtu.fld fa166_0 (lk rfl)) rfl ?_
  refine AB.gd 3 rfl (by decide +kernel) rfl rfl rfl rfl (Det.ld Try.isAgg73 (lk rfl) (Rd.ow 0 rfl rfl)) rfl ?_
  refine AB.gu 5 rfl (by decide +kernel) rfl rfl rfl (Dtu.fld fa166_1 (lk rfl)) rfl ?_
  refine AB.gd 6 rfl (by decide +kernel) rfl rfl rfl rfl (Det.ld Try.isAgg35 (lk rfl) (Rd.ow 0 rfl rfl)) rfl ?_
  refine AB.gs 4 rfl (by decide +kernel) (by decide +kernel) rfl rfl rfl (Stp.call rfl Try.call106 (lks rfl) (fun E' le hat => crc_ok E' _ _ (by first | exact Sl.mono (by assumption) le | exact Sl.hatI hat 0 rfl | exact Sl.hatI hat 1 rfl | exact Sl.hatI hat 2 rfl | exact Sl.hatI hat 3 rfl | exact Sl.hatI hat 4 rfl | exact Sl.hatI hat 5 rfl | exact Sl.hatI hat 6 rfl | exact Sl.hatI hat 7 rfl | exact Sl.hatI hat 8 rfl | exact Sl.hatI hat 9 rfl | exact Sl.hatI hat 10 rfl | exact Sl.hatI hat 11 rfl | exact Sl.hatI hat 12 rfl | exact Sl.hatI hat 13 rfl | exact Sl.hatI hat 14 rfl | exact Sl.hatI hat 15 rfl | exact Sl.hatW hat 0 rfl | exact Sl.hatW hat 1 rfl | exact Sl.hatW hat 2 rfl | exact Sl.hatW hat 3 rfl | exact Sl.hatW hat 4 rfl | exact Sl.hatW hat 5 rfl | exact Sl.hatW hat 6 rfl | exact Sl.hatW hat 7 rfl | exact Sl.hatW hat 8 rfl | exact Sl.hatW hat 9 rfl) (by assumption)) ?_) rfl
  rintro _ _ ⟨rfl, rfl⟩
  refine AB.gu 7 rfl (by decide +kernel) rfl rfl rfl (Dtu.eql (lk rfl) (lk rfl)) rfl ?_
  refine AB.u 8 rfl (by decide +kernel) (Dtu.pickT (lk rfl) (lk rfl)) rfl ?_
  refine AB.u 9 rfl (by decide +kernel) (Dtu.asg (lk rfl)) rfl ?_
  refine AB.done (by decide +kernel) ?_
  refine Then.next ?_
  refine Body.ret ?_
  exact ⟨.inr rfl, _, pk [] rfl, congrArg Value.bool e, rfl⟩
theorem sound_r (E : Env) (b : Nat) (F : Fi) (i : Int) (hA : At (filP b F) E) : Does Try.prog 107 #[.pointer (some ⟨b, 0, none⟩), .int .i64 i] E ([]) fun r H' => r = .bool (F.good i) ∧ H' = [] := by
  obtain ⟨y, cs, h1, ok, a1, a2, a3⟩ := filAt hA
  unfold Fi.good
  cases hc : cget F.cs i with
  | none =>
    rw [← h1] at hc
    exact sound_n E b y F i cs a1 a2 (chm_none hc)
  | some k =>
    have hk := cget_mem hc
    have hb := (ok.cs k hk.1).2.2.2
    rw [← h1] at hc
    obtain ⟨A, c, C, rfl, h3, h4, h5⟩ := chm_some hc
    subst h3
    exact sound_y E b y F i _ c.v c.k.d c.k.s a1 a2 h5 (poolSl (t := 5) a3 (List.mem_map_of_mem (f := Ch.own) (by simp))) hb
end Go.Proofs.Ytpmapedhigjalaa
end
section
/- store: the map of what is sound. -/
namespace Go.Proofs.Ytpmapedhigjalaa
set_option maxRecDepth 100000
set_option maxHeartbeats 4000000
set_option linter.unusedVariables false
set_option linter.unusedSimpArgs false
open Go.Sx
/-- the chunks that are sound, of the first n -/
def bitsN (g : Nat → Bool) : Nat → Nat
  | 0 => 0
  | n + 1 => if g n then bitsN g n ||| 2 ^ n else bitsN g n
theorem bitsN_lt (g : Nat → Bool) (n : Nat) : bitsN g n < 2 ^ n := by
  induction n with
  | zero => simp [bitsN]
  | succ n ih =>
    have h : 2 ^ n < 2 ^ (n + 1) := Nat.pow_lt_pow_right (by omega) (by omega)
    simp only [bitsN]
    split
    · exact Nat.or_lt_two_pow (by omega) h
    · omega
theorem bitsN_bit (g : Nat → Bool) (n i : Nat) : (bitsN g n).testBit i = (decide (i < n) && g i) := by
  induction n with
  | zero => simp [bitsN]
  | succ n ih =>
    simp only [bitsN]
    by_cases hi : i = n
    · subst hi
      split
      · rename_i h; rw [Nat.testBit_or, ih, Nat.testBit_two_pow_self, h]; simp
      · rename_i h; rw [ih]; simp [Bool.eq_false_iff.2 h]
    · have e : decide (i < n + 1) = decide (i < n) := decide_eq_decide.2 (by omega)
      split
      · rw [Nat.testBit_or, ih, Nat.testBit_two_pow_of_ne (fun h => hi h.symm), e, Bool.or_false]
      · rw [ih, e]
theorem or_pow (a k : Nat) : orB (a : Int) (2 ^ ((k : Nat) : Int).toNat) = ((a ||| 2 ^ k : Nat) : Int) := by
  unfold orB
  rw [Int.toNat_natCast, Int.toNat_natCast]
  congr 2
def Fi.n (F : Fi) : Nat := (chZ F.sz).toNat
def Fi.bits (F : Fi) : Nat := bitsN (fun i => F.good (i : Nat)) F.n
theorem Fi.n_eq (F : Fi) : ((F.n : Nat) : Int) = chZ F.sz := by have := chZ_le F.sz; unfold Fi.n; omega
theorem Fi.n_le (F : Fi) : F.n ≤ 64 := by have := chZ_le F.sz; unfold Fi.n; omega
theorem bits_u {k n x : Nat} (hx : x < 2 ^ k) (hk : k ≤ n) (hn : n ≤ 64) : U64 (x : Int) ∧ bmR (n : Int) (x : Int) = true := by
  have h1 : 2 ^ k ≤ 2 ^ n := Nat.pow_le_pow_right (by omega) hk
  have h2 : 2 ^ n ≤ 2 ^ 64 := Nat.pow_le_pow_right (by omega) hn
  refine ⟨⟨by omega, by omega⟩, ?_⟩
  unfold bmR
  rw [decide_eq_true_eq, Int.toNat_natCast]
  exact ⟨by omega, by omega, by exact_mod_cast Nat.lt_of_lt_of_le hx h1⟩
theorem Fi.bits_u (F : Fi) : U64 (F.bits : Int) ∧ bmR (F.n : Int) (F.bits : Int) = true := Go.Proofs.Ytpmapedhigjalaa.bits_u (bitsN_lt _ F.n) (Nat.le_refl _) F.n_le
theorem bits_r (E : Env) (b : Nat) (F : Fi) (hA : At (filP b F) E) : Does Try.prog 102 #[.pointer (some ⟨b, 0, none⟩)] E ([]) fun r H' => r = .tuple #[.agg #[.int .i64 (F.n : Nat), .int .u64 (F.bits : Nat)], .int .i64 0] ∧ H' = [] := by
  obtain ⟨y, cs, h1, ok, a1, a2, a3⟩ := filAt hA
  have hn := chZ_le F.sz
  have hN := F.n_eq
  have hl := F.n_le
  rw [Fi.bits]
  refine Does.go _ _ Try.func102 rfl Try.ntmps102 rfl rfl ?_
  skip
  refine Body.seq ?_
  refine Body.region ?_
  refine Ops.s (Stp.alloc ty86 (fun b2 => ?_)) rfl
  refine Ops.u (Dtu.asg (lk rfl)) rfl ?_
  refine Ops.nil ?_
  refine Then.next ?_
  refine Body.seq ?_
  refine Body.region ?_
  refine Ops.u (Dtu.mv (lk rfl)) rfl ?_
  refine Ops.u (Dtu.nilck (lk rfl)) rfl ?_
  refine Ops.u (Dtu.fld fa158_0 (lk rfl)) rfl ?_
  refine Ops.u (Dtu.fld fa82_2 (lk rfl)) rfl ?_
  refine Ops.d (Det.ld Try.isAgg3 (lk rfl) (Rd.env (own_at a1 rfl))) rfl ?_
  refine Ops.s (Stp.call rfl Try.call62 (lks rfl) (fun E' le hat => schunks_ok E' _) ?_) rfl
  rintro _ _ ⟨rfl, rfl⟩
  refine Ops.s (Stp.call rfl Try.call88 (lks rfl) (fun E' le hat => bnew_ok E' _ (by first | with_reducible assumption | omega | assumption)) ?_) rfl
  rintro _ _ ⟨rfl, rfl⟩
  refine Ops.u (Dtu.mv (lk rfl)) rfl ?_
  refine Ops.u (Dtu.ext (lk rfl) rfl) rfl ?_
  refine Ops.u (Dtu.ext (lk rfl) rfl) rfl ?_
  refine Ops.s (Stp.alloc ty86 (fun b4 => ?_)) rfl
  refine Ops.e (Stp.store 0 Try.sizeOf86 (lk rfl) (lk rfl) rfl rfl rfl rfl rfl rfl rfl ?_)
  refine Ops.u (Dtu.asg (lk rfl)) rfl ?_
  refine Ops.nil ?_
  refine Then.next ?_
  refine Body.seq ?_
  refine Body.seq ?_
  refine Body.region ?_
  refine Ops.u (Dtu.mv (lk rfl)) rfl ?_
  refine Ops.u (Dtu.nilck (lk rfl)) rfl ?_
  refine Ops.u (Dtu.fld fa158_0 (lk rfl)) rfl ?_
  refine Ops.u (Dtu.fld fa82_2 (lk rfl)) rfl ?_
  refine Ops.d (Det.ld Try.isAgg3 (lk rfl) (Rd.env (own_at a1 rfl))) rfl ?_
  refine Ops.s (Stp.call rfl Try.call62 (lks rfl) (fun E' le hat => schunks_ok E' _) ?_) rfl
  rintro _ _ ⟨rfl, rfl⟩
  refine Ops.u (Dtu.mv (lk rfl)) rfl ?_
  refine Ops.nil ?_
  refine Then.next ?_
  refine Body.block ?_
  refine Body.loopL (γ := Nat) [0, 2, 3, 4, 5, 22] rfl (fun k => [(23, .int .i64 (k : Nat))]) (fun k => [(0, own b4 [.int .i64 (chZ F.sz), .int .u64 (bitsN (fun i => F.good (i : Nat)) k : Nat)] 86)]) (fun _ => rfl) (fun _ _ => rfl) (fun k => k ≤ F.n) (fun k => F.n - k) (0) (Nat.zero_le _) ⟨rfl, trivial⟩ rfl ?_
  rintro k u hk
  by_cases hlt : k < F.n
  · obtain ⟨hu, hr⟩ := bits_u (bitsN_lt (fun i => F.good (i : Nat)) k) hk hl
    rw [hN] at hr
    have ho := or_pow (bitsN (fun i => F.good (i : Nat)) k) k
    cases hg : F.good (k : Nat) with
    | true =>
      have e : bitsN (fun i => F.good (i : Nat)) (k + 1) = bitsN (fun i => F.good (i : Nat)) k ||| 2 ^ k := if_pos hg
      generalize bitsN (fun i => F.good (i : Nat)) k = B at *
      refine Body.seq ?_
      refine Body.region ?_
      refine Ops.u (Dtu.lss (lk rfl) (lk rfl)) rfl ?_
      refine Ops.nil ?_
      refine Then.next ?_
      refine Body.seq ?_
      refine Body.condP (lk rfl) (fun _ => ?_) (fun hn => absurd (by first | omega | assumption | decide) hn)
      refine Body.skip ?_
      refine Then.next ?_
      refine Body.seq ?_
      refine Body.block ?_
      refine Body.seq ?_
      refine Body.region ?_
      refine Ops.u (Dtu.mv (lk rfl)) rfl ?_
      refine Ops.u (Dtu.asg (lk rfl)) rfl ?_
      refine Ops.nil ?_
      refine Then.next ?_
      refine Body.seq ?_
      refine Body.region ?_
      refine Ops.u (Dtu.mv (lk rfl)) rfl ?_
      refine Ops.u (Dtu.eql (lk rfl) (lk rfl)) rfl ?_
      refine Ops.u (Dtu.mv (lk rfl)) rfl ?_
      refine Ops.decP 28 rfl (fun _ => ?_) (fun hn => absurd (by first | omega | assumption | decide) hn)
      refine Ops.gu rfl rfl rfl (Dtu.mv (lk rfl)) rfl ?_
      refine Ops.gu rfl rfl rfl (Dtu.mv (lk rfl)) rfl ?_
      refine Ops.gs rfl rfl rfl (Stp.call rfl Try.call107 (lks rfl) (fun E' le hat => sound_r E' _ _ _ (by first | exact At.mono (by assumption) le | exact hat _ (.head _) | exact hat _ (.tail _ (.head _)) | exact hat _ (.tail _ (.tail _ (.head _))) | exact hat _ (.tail _ (.tail _ (.tail _ (.head _)))) | exact hat _ (.tail _ (.tail _ (.tail _ (.tail _ (.head _))))) | exact hat _ (.tail _ (.tail _ (.tail _ (.tail _ (.tail _ (.head _)))))) | exact hat _ (.tail _ (.tail _ (.tail _ (.tail _ (.tail _ (.tail _ (.head _))))))) | exact hat _ (.tail _ (.tail _ (.tail _ (.tail _ (.tail _ (.tail _ (.tail _ (.head _)))))))) | exact hat _ (.tail _ (.tail _ (.tail _ (.tail _ (.tail _ (.tail _ (.tail _ (.tail _ (.head _))))))))) | exact hat _ (.tail _ (.tail _ (.tail _ (.tail _ (.tail _ (.tail _ (.tail _ (.tail _ (.tail _ (.head _)))))))))))) ?_) rfl
      rintro _ _ ⟨rfl, rfl⟩
      refine Ops.u (Dtu.pickT (lk rfl) (lk rfl)) rfl ?_
      refine Ops.nil ?_
      refine Then.next ?_
      refine Body.cond (lk rfl) (fun _ => ?_) (fun hn => absurd hn (by first | (rw [hg]; decide) | simp [hg]))
      refine Body.region ?_
      refine Ops.d (Det.lda Try.isAgg86 Try.sizeOf86 (lk rfl) (Rds.ow (m := 2) 0 rfl rfl) rfl) rfl ?_
      refine Ops.u (Dtu.mv (lk rfl)) rfl ?_
      refine Ops.s (Stp.call rfl Try.call89 (lks rfl) (fun E' le hat => bwith_ok E' _ _ _ (by first | with_reducible assumption | omega | assumption) (by first | with_reducible assumption | omega | assumption) (by first | with_reducible assumption | omega | assumption)) ?_) rfl
      rintro _ _ ⟨rfl, rfl⟩
      refine Ops.u (Dtu.mv (lk rfl)) rfl ?_
      refine Ops.u (Dtu.ext (lk rfl) rfl) rfl ?_
      refine Ops.u (Dtu.ext (lk rfl) rfl) rfl ?_
      refine Ops.e (Stp.store 0 Try.sizeOf86 (lk rfl) (lk rfl) rfl rfl rfl rfl rfl rfl rfl ?_)
      refine Ops.u (Dtu.asg (lk rfl)) rfl ?_
      refine Ops.nil ?_
      refine Blk.norm ?_
      refine Then.next ?_
      refine Body.region ?_
      refine Ops.u (Dtu.add (lk rfl) (lk rfl) (w64 (by omega) (by omega))) rfl ?_
      refine Ops.u (Dtu.mv (lk rfl)) rfl ?_
      refine Ops.nil ?_
      refine Round.goL [0, 0] (k + 1) rfl ⟨rfl, trivial⟩ rfl (by (try dsimp only); rw [ho, ← e]; try rfl) hlt (by omega)
    | false =>
      have e : bitsN (fun i => F.good (i : Nat)) (k + 1) = bitsN (fun i => F.good (i : Nat)) k := if_neg (by dsimp only; rw [hg]; simp)
      generalize bitsN (fun i => F.good (i : Nat)) k = B at *
      refine Body.seq ?_
      refine Body.region ?_
      refine Ops.u (Dtu.lss (lk rfl) (lk rfl)) rfl ?_
      refine Ops.nil ?_
      refine Then.next ?_
      refine Body.seq ?_
      refine Body.condP (lk rfl) (fun _ => ?_) (fun hn => absurd (by first | omega | assumption | decide) hn)
      refine Body.skip ?_
      refine Then.next ?_
      refine Body.seq ?_
      refine Body.block ?_
      refine Body.seq ?_
      refine Body.region ?_
      refine Ops.u (Dtu.mv (lk rfl)) rfl ?_
      refine Ops.u (Dtu.asg (lk rfl)) rfl ?_
      refine Ops.nil ?_
      refine Then.next ?_
      refine Body.seq ?_
      refine Body.region ?_
      refine Ops.u (Dtu.mv (lk rfl)) rfl ?_
      refine Ops.u (Dtu.eql (lk rfl) (lk rfl)) rfl ?_
      refine Ops.u (Dtu.mv (lk rfl)) rfl ?_
      refine Ops.decP 28 rfl (fun _ => ?_) (fun hn => absurd (by first | omega | assumption | decide) hn)
      refine Ops.gu rfl rfl rfl (Dtu.mv (lk rfl)) rfl ?_
      refine Ops.gu rfl rfl rfl (Dtu.mv (lk rfl)) rfl ?_
      refine Ops.gs rfl rfl rfl (Stp.call rfl Try.call107 (lks rfl) (fun E' le hat => sound_r E' _ _ _ (by first | exact At.mono (by assumption) le | exact hat _ (.head _) | exact hat _ (.tail _ (.head _)) | exact hat _ (.tail _ (.tail _ (.head _))) | exact hat _ (.tail _ (.tail _ (.tail _ (.head _)))) | exact hat _ (.tail _ (.tail _ (.tail _ (.tail _ (.head _))))) | exact hat _ (.tail _ (.tail _ (.tail _ (.tail _ (.tail _ (.head _)))))) | exact hat _ (.tail _ (.tail _ (.tail _ (.tail _ (.tail _ (.tail _ (.head _))))))) | exact hat _ (.tail _ (.tail _ (.tail _ (.tail _ (.tail _ (.tail _ (.tail _ (.head _)))))))) | exact hat _ (.tail _ (.tail _ (.tail _ (.tail _ (.tail _ (.tail _ (.tail _ (.tail _ (.head _))))))))) | exact hat _ (.tail _ (.tail _ (.tail _ (.tail _ (.tail _ (.tail _ (.tail _ (.tail _ (.tail _ (.head _)))))))))))) ?_) rfl
      rintro _ _ ⟨rfl, rfl⟩
      refine Ops.u (Dtu.pickT (lk rfl) (lk rfl)) rfl ?_
      refine Ops.nil ?_
      refine Then.next ?_
      refine Body.cond (lk rfl) (fun hn => absurd hn (by first | (rw [hg]; decide) | simp [hg])) (fun _ => ?_)
      refine Body.skip ?_
      refine Blk.norm ?_
      refine Then.next ?_
      refine Body.region ?_
      refine Ops.u (Dtu.add (lk rfl) (lk rfl) (w64 (by omega) (by omega))) rfl ?_
      refine Ops.u (Dtu.mv (lk rfl)) rfl ?_
      refine Ops.nil ?_
      refine Round.goL [0, 0] (k + 1) rfl ⟨rfl, trivial⟩ rfl (by (try dsimp only); rw [e]; try rfl) hlt (by omega)
  · obtain rfl : k = F.n := by omega
    rw [hN]
    refine Body.seq ?_
    refine Body.region ?_
    refine Ops.u (Dtu.lss (lk rfl) (lk rfl)) rfl ?_
    refine Ops.nil ?_
    refine Then.next ?_
    refine Body.seq ?_
    refine Body.condP (lk rfl) (fun hy => absurd hy (by first | omega | assumption | decide)) (fun _ => ?_)
    refine Body.exit ?_
    refine Then.exit ?_
    refine Round.exit ?_
    refine Blk.here ?_
    refine Then.next ?_
    refine Body.seq ?_
    refine Body.region ?_
    refine Ops.d (Det.lda Try.isAgg86 Try.sizeOf86 (lk rfl) (Rds.ow (m := 2) 0 rfl rfl) rfl) rfl ?_
    refine Ops.u (Dtu.mv (lk rfl)) rfl ?_
    refine Ops.e (Stp.store 1 Try.sizeOf86 (lk rfl) (lk rfl) rfl rfl rfl rfl rfl rfl rfl ?_)
    refine Ops.u (Dtu.asg (lk rfl)) rfl ?_
    refine Ops.nil ?_
    refine Then.next ?_
    refine Body.ret ?_
    exact ⟨.inr rfl, _, Loads.agg Try.isAgg86 Try.sizeOf86 (Rds.ow (m := 2) 1 rfl rfl) rfl, _, pk [] rfl, rfl, rfl⟩
end Go.Proofs.Ytpmapedhigjalaa
end
section
/- store: all files in memory; find, Map. -/
namespace Go.Proofs.Ytpmapedhigjalaa
set_option maxRecDepth 100000
set_option maxHeartbeats 4000000
set_option linter.unusedVariables false
set_option linter.unusedSimpArgs false
open Go.Sx
/-- a file, and where it lies -/
structure Fp where
  F : Fi
  b : Nat
def Fp.ptr (e : Fp) : Value := .pointer (some ⟨e.b, 0, none⟩)
def Fp.own (e : Fp) : HProp := filP e.b e.F
def fpm (l : List Fp) : ML := l.map fun e => (e.F.id, e.ptr)
def sget : List Fi → Int → Option Fi
  | [], _ => none
  | F :: l, i => if i = F.id then some F else sget l i
/-- a file in the place of that of its ID -/
def sput : List Fi → Fi → List Fi
  | [], _ => []
  | G :: l, F => if F.id = G.id then F :: l else G :: sput l F
def sdel : List Fi → Int → List Fi
  | [], _ => []
  | F :: l, i => if i = F.id then l else F :: sdel l i
theorem fpm_none {l : List Fp} {i : Int} (h : sget (l.map Fp.F) i = none) : mget (fpm l) i = none := by
  induction l with
  | nil => rfl
  | cons x l ih =>
    simp only [List.map_cons, sget] at h
    simp only [fpm, List.map_cons, mget]
    split at h
    · cases h
    · rename_i hn; rw [if_neg hn]; exact ih h
theorem fpm_some {l : List Fp} {i : Int} {F : Fi} (h : sget (l.map Fp.F) i = some F) : ∃ A e C, l = A ++ e :: C ∧ e.F = F ∧ e.F.id = i ∧ mget (fpm l) i = some e.ptr ∧ mdel (fpm l) i = fpm (A ++ C) ∧
    (∀ F' : Fi, F'.id = i → (A ++ (⟨F', e.b⟩ : Fp) :: C).map Fp.F = sput (l.map Fp.F) F' ∧ fpm (A ++ (⟨F', e.b⟩ : Fp) :: C) = fpm l) ∧ (A ++ C).map Fp.F = sdel (l.map Fp.F) i := by
  induction l with
  | nil => cases h
  | cons x l ih =>
    simp only [List.map_cons, sget] at h
    split at h
    · rename_i hn
      refine ⟨[], x, l, rfl, Option.some.inj h, hn.symm, ?_, ?_, fun F' h' => ⟨?_, ?_⟩, ?_⟩
      · simp only [fpm, List.map_cons, mget]; rw [if_pos hn]
      · simp only [fpm, List.map_cons, mdel]; rw [if_pos hn]; rfl
      · simp only [List.nil_append, List.map_cons, sput]; rw [if_pos (by rw [h', hn])]
      · simp only [List.nil_append, fpm, List.map_cons]; rw [h', hn]; rfl
      · simp only [List.nil_append, List.map_cons, sdel]; rw [if_pos hn]
    · rename_i hn
      obtain ⟨A, e, C, rfl, h1, h2, h3, h4, h5, h6⟩ := ih h
      refine ⟨x :: A, e, C, rfl, h1, h2, ?_, ?_, fun F' h' => ⟨?_, ?_⟩, ?_⟩
      · simp only [fpm, List.map_cons, mget]; rw [if_neg hn]; exact h3
      · simp only [fpm, List.cons_append, List.map_cons, mdel]; rw [if_neg hn]; exact congrArg _ h4
      · simp only [List.cons_append, List.map_cons, sput]; rw [if_neg (by rw [h']; exact hn)]; exact congrArg _ (h5 F' h').1
      · simp only [List.cons_append, fpm, List.map_cons]; exact congrArg _ (h5 F' h').2
      · simp only [List.cons_append, List.map_cons, sdel]; rw [if_neg hn]; exact congrArg _ h6
theorem fpm_new {l : List Fp} {e : Fp} (h : sget (l.map Fp.F) e.F.id = none) : mput (fpm l) e.F.id e.ptr = fpm (l ++ [e]) := by
  rw [mput_none (fpm_none h)]; simp [fpm]
theorem fpm_len (l : List Fp) : (fpm l).length = (l.map Fp.F).length := by simp [fpm]
/-- what owns a store -/
def stoA (b : Nat) (a : Nat × List Fp) : List HProp := match a with
  | (z, es) => [own b [.map (some z)] 154, omp .u64 z (fpm es), many (es.map Fp.own)]
def stoP (b : Nat) (fs : List Fi) : HProp := exO (fun a : Nat × List Fp => a.2.map Fp.F = fs) (stoA b)
theorem stoAt {E : Env} {b : Nat} {fs : List Fi} (h : At (stoP b fs) E) : ∃ z es, es.map Fp.F = fs ∧ At (own b [.map (some z)] 154) E ∧ Mp E [] .u64 z (fpm es) ∧ ∀ e ∈ es, At (filP e.b e.F) E := by
  obtain ⟨⟨z, es⟩, h1, h3⟩ := exO_at h
  exact ⟨z, es, h1, h3 _ (.head _), Mp.at (h3 _ (.tail _ (.head _))), fun e he => poolAt (h3 _ (.tail _ (.tail _ (.head _)))) _ (List.mem_map_of_mem (f := Fp.own) he)⟩
theorem smade_b (E : Env) (b z : Nat) (hA : At (own b [.map (some z)] 154) E) : Does Try.prog 101 #[.pointer (some ⟨b, 0, none⟩)] E ([]) fun r H' => r = .bool true ∧ H' = [] := by
  refine Does.go _ _ Try.func101 rfl Try.ntmps101 rfl rfl ?_
  skip
  refine Body.seq ?_
  refine Body.region ?_
  refine Ops.u (Dtu.asg (lk rfl)) rfl ?_
  refine Ops.nil ?_
  refine Then.next ?_
  refine Body.seq ?_
  refine Body.region ?_
  refine Ops.u (Dtu.mv (lk rfl)) rfl ?_
  refine Ops.u (Dtu.neNil Try.underlying116 (lk rfl) (lk rfl)) rfl ?_
  refine Ops.u (Dtu.mv (lk rfl)) rfl ?_
  refine Ops.gu rfl rfl rfl (Dtu.mv (lk rfl)) rfl ?_
  refine Ops.gu rfl rfl rfl (Dtu.nilck (lk rfl)) rfl ?_
  refine Ops.gu rfl rfl rfl (Dtu.fld fa154_0 (lk rfl)) rfl ?_
  refine Ops.gd rfl rfl rfl (Det.ld Try.isAgg152 (lk rfl) (Rd.env (own_at hA rfl))) rfl ?_
  refine Ops.gu rfl rfl rfl (Dtu.neNilM Try.underlying152 (lk rfl) (lk rfl)) rfl ?_
  refine Ops.u (Dtu.pickT (lk rfl) (lk rfl)) rfl ?_
  refine Ops.u (Dtu.asg (lk rfl)) rfl ?_
  refine Ops.nil ?_
  refine Then.next ?_
  refine Body.ret ?_
  exact ⟨.inr rfl, _, pk [] rfl, rfl, rfl⟩
theorem find_y (E : Env) (b z fb : Nat) (id : Int) (es : List Fp) (hA : At (own b [.map (some z)] 154) E) (hM : Mp E [] .u64 z (fpm es)) (hn : mget (fpm es) id = some (.pointer (some ⟨fb, 0, none⟩))) : Does Try.prog 105 #[.pointer (some ⟨b, 0, none⟩), .int .u64 id] E ([]) fun r H' => r = .tuple #[.pointer (some ⟨fb, 0, none⟩), .int .i64 0] ∧ H' = [] := by
  refine Does.go _ _ Try.func105 rfl Try.ntmps105 rfl rfl ?_
  skip
  refine Body.seq ?_
  refine Body.region ?_
  refine Ops.u (Dtu.asg (lk rfl)) rfl ?_
  refine Ops.u (Dtu.asg (lk rfl)) rfl ?_
  refine Ops.nil ?_
  refine Then.next ?_
  refine Body.seq ?_
  refine Body.seq ?_
  refine Body.region ?_
  refine Ops.u (Dtu.mv (lk rfl)) rfl ?_
  refine Ops.s (Stp.call rfl Try.call101 (lks rfl) (fun E' le hat => smade_b E' _ _ (by first | exact At.mono (by assumption) le | exact hat _ (.head _) | exact hat _ (.tail _ (.head _)) | exact hat _ (.tail _ (.tail _ (.head _))) | exact hat _ (.tail _ (.tail _ (.tail _ (.head _)))) | exact hat _ (.tail _ (.tail _ (.tail _ (.tail _ (.head _))))) | exact hat _ (.tail _ (.tail _ (.tail _ (.tail _ (.tail _ (.head _)))))) | exact hat _ (.tail _ (.tail _ (.tail _ (.tail _ (.tail _ (.tail _ (.head _))))))) | exact hat _ (.tail _ (.tail _ (.tail _ (.tail _ (.tail _ (.tail _ (.tail _ (.head _)))))))) | exact hat _ (.tail _ (.tail _ (.tail _ (.tail _ (.tail _ (.tail _ (.tail _ (.tail _ (.head _))))))))) | exact hat _ (.tail _ (.tail _ (.tail _ (.tail _ (.tail _ (.tail _ (.tail _ (.tail _ (.tail _ (.head _)))))))))))) ?_) rfl
  rintro _ _ ⟨rfl, rfl⟩
  refine Ops.u (Dtu.not (lk rfl)) rfl ?_
  refine Ops.nil ?_
  refine Then.next ?_
  refine Body.condF (lk rfl) ?_
  refine Body.skip ?_
  refine Then.next ?_
  refine Body.seq ?_
  refine Body.region ?_
  refine Ops.u (Dtu.mv (lk rfl)) rfl ?_
  refine Ops.u (Dtu.nilck (lk rfl)) rfl ?_
  refine Ops.u (Dtu.fld fa154_0 (lk rfl)) rfl ?_
  refine Ops.d (Det.ld Try.isAgg152 (lk rfl) (Rd.env (own_at hA rfl))) rfl ?_
  refine Ops.u (Dtu.mv (lk rfl)) rfl ?_
  refine Ops.d (Det.lookY Try.underlying152 Try.underlying72 (Mp.up hM) (lk rfl) (lk rfl) (by with_reducible assumption)) rfl ?_
  refine Ops.u (Dtu.asg (lk rfl)) rfl ?_
  refine Ops.nil ?_
  refine Then.next ?_
  refine Body.seq ?_
  refine Body.seq ?_
  refine Body.region ?_
  refine Ops.u (Dtu.mv (lk rfl)) rfl ?_
  refine Ops.u (Dtu.eqNil Try.underlying155 (lk rfl) (lk rfl)) rfl ?_
  refine Ops.nil ?_
  refine Then.next ?_
  refine Body.condF (lk rfl) ?_
  refine Body.skip ?_
  refine Then.next ?_
  refine Body.seq ?_
  refine Body.region ?_
  refine Ops.u (Dtu.mv (lk rfl)) rfl ?_
  refine Ops.u (Dtu.asg (lk rfl)) rfl ?_
  refine Ops.u (Dtu.asg (lk rfl)) rfl ?_
  refine Ops.nil ?_
  refine Then.next ?_
  refine Body.ret ?_
  exact ⟨.inr rfl, _, pk [] rfl, rfl, rfl⟩
theorem map_y (E : Env) (b : Nat) (id : Int) (fs : List Fi) (F : Fi) (hA : At (stoP b fs) E) (hn : sget fs id = some F) : Does Try.prog 71 #[.pointer (some ⟨b, 0, none⟩), .int .u64 id] E ([]) fun r H' => r = .tuple #[.agg #[.int .i64 (F.n : Nat), .int .u64 (F.bits : Nat)], .int .i64 0] ∧ H' = [] := by
  obtain ⟨z, es, rfl, a1, a2, a3⟩ := stoAt hA
  obtain ⟨A, e, C, rfl, h1, h2, hm, h4, h5, h6⟩ := fpm_some hn
  obtain ⟨F, fb⟩ := e
  dsimp only at h1
  subst h1
  have a4 : At (filP fb F) E := a3 ⟨F, fb⟩ (by simp)
  rw [Fp.ptr] at hm
  dsimp only at hm
  refine Does.go _ _ Try.func71 rfl Try.ntmps71 rfl rfl ?_
  skip
  refine Body.seq ?_
  refine Body.region ?_
  refine Ops.s (Stp.alloc ty86 (fun b4 => ?_)) rfl
  refine Ops.u (Dtu.asg (lk rfl)) rfl ?_
  refine Ops.nil ?_
  refine Then.next ?_
  refine Body.seq ?_
  refine Body.region ?_
  refine Ops.u (Dtu.mv (lk rfl)) rfl ?_
  refine Ops.u (Dtu.mv (lk rfl)) rfl ?_
  refine Ops.s (Stp.call rfl Try.call105 (lks rfl) (fun E' le hat => find_y E' _ _ _ _ _ (by first | exact At.mono (by assumption) le | exact hat _ (.head _) | exact hat _ (.tail _ (.head _)) | exact hat _ (.tail _ (.tail _ (.head _))) | exact hat _ (.tail _ (.tail _ (.tail _ (.head _)))) | exact hat _ (.tail _ (.tail _ (.tail _ (.tail _ (.head _))))) | exact hat _ (.tail _ (.tail _ (.tail _ (.tail _ (.tail _ (.head _)))))) | exact hat _ (.tail _ (.tail _ (.tail _ (.tail _ (.tail _ (.tail _ (.head _))))))) | exact hat _ (.tail _ (.tail _ (.tail _ (.tail _ (.tail _ (.tail _ (.tail _ (.head _)))))))) | exact hat _ (.tail _ (.tail _ (.tail _ (.tail _ (.tail _ (.tail _ (.tail _ (.tail _ (.head _))))))))) | exact hat _ (.tail _ (.tail _ (.tail _ (.tail _ (.tail _ (.tail _ (.tail _ (.tail _ (.tail _ (.head _))))))))))) (by first | exact Mp.mono (by assumption) le | exact Mp.at ((by first | exact At.mono (by assumption) le | exact hat _ (.head _) | exact hat _ (.tail _ (.head _)) | exact hat _ (.tail _ (.tail _ (.head _))) | exact hat _ (.tail _ (.tail _ (.tail _ (.head _)))) | exact hat _ (.tail _ (.tail _ (.tail _ (.tail _ (.head _))))) | exact hat _ (.tail _ (.tail _ (.tail _ (.tail _ (.tail _ (.head _)))))) | exact hat _ (.tail _ (.tail _ (.tail _ (.tail _ (.tail _ (.tail _ (.head _))))))) | exact hat _ (.tail _ (.tail _ (.tail _ (.tail _ (.tail _ (.tail _ (.tail _ (.head _)))))))) | exact hat _ (.tail _ (.tail _ (.tail _ (.tail _ (.tail _ (.tail _ (.tail _ (.tail _ (.head _))))))))) | exact hat _ (.tail _ (.tail _ (.tail _ (.tail _ (.tail _ (.tail _ (.tail _ (.tail _ (.tail _ (.head _))))))))))))) (by assumption)) ?_) rfl
  rintro _ _ ⟨rfl, rfl⟩
  refine Ops.u (Dtu.mv (lk rfl)) rfl ?_
  refine Ops.u (Dtu.ext (lk rfl) rfl) rfl ?_
  refine Ops.u (Dtu.ext (lk rfl) rfl) rfl ?_
  refine Ops.u (Dtu.asg (lk rfl)) rfl ?_
  refine Ops.u (Dtu.asg (lk rfl)) rfl ?_
  refine Ops.nil ?_
  refine Then.next ?_
  refine Body.seq ?_
  refine Body.seq ?_
  refine Body.region ?_
  refine Ops.u (Dtu.mv (lk rfl)) rfl ?_
  refine Ops.u (Dtu.neq (lk rfl) (lk rfl)) rfl ?_
  refine Ops.nil ?_
  refine Then.next ?_
  refine Body.condP (lk rfl) (fun hy => absurd hy (by first | omega | assumption | decide)) (fun _ => ?_)
  refine Body.skip ?_
  refine Then.next ?_
  refine Body.seq ?_
  refine Body.region ?_
  refine Ops.u (Dtu.mv (lk rfl)) rfl ?_
  refine Ops.s (Stp.call rfl Try.call102 (lks rfl) (fun E' le hat => bits_r E' _ _ (by first | exact At.mono (by assumption) le | exact hat _ (.head _) | exact hat _ (.tail _ (.head _)) | exact hat _ (.tail _ (.tail _ (.head _))) | exact hat _ (.tail _ (.tail _ (.tail _ (.head _)))) | exact hat _ (.tail _ (.tail _ (.tail _ (.tail _ (.head _))))) | exact hat _ (.tail _ (.tail _ (.tail _ (.tail _ (.tail _ (.head _)))))) | exact hat _ (.tail _ (.tail _ (.tail _ (.tail _ (.tail _ (.tail _ (.head _))))))) | exact hat _ (.tail _ (.tail _ (.tail _ (.tail _ (.tail _ (.tail _ (.tail _ (.head _)))))))) | exact hat _ (.tail _ (.tail _ (.tail _ (.tail _ (.tail _ (.tail _ (.tail _ (.tail _ (.head _))))))))) | exact hat _ (.tail _ (.tail _ (.tail _ (.tail _ (.tail _ (.tail _ (.tail _ (.tail _ (.tail _ (.head _)))))))))))) ?_) rfl
  rintro _ _ ⟨rfl, rfl⟩
  refine Ops.u (Dtu.ext (lk rfl) rfl) rfl ?_
  refine Ops.u (Dtu.ext (lk rfl) rfl) rfl ?_
  refine Ops.e (Stp.store 0 Try.sizeOf86 (lk rfl) (lk rfl) rfl rfl rfl rfl rfl rfl rfl ?_)
  refine Ops.u (Dtu.asg (lk rfl)) rfl ?_
  refine Ops.nil ?_
  refine Then.next ?_
  refine Body.ret ?_
  exact ⟨.inr rfl, _, Loads.agg Try.isAgg86 Try.sizeOf86 (Rds.ow (m := 2) 0 rfl rfl) rfl, _, pk [] rfl, rfl, rfl⟩
end Go.Proofs.Ytpmapedhigjalaa
end
section
/- store: New, Open. -/
namespace Go.Proofs.Ytpmapedhigjalaa
set_option maxRecDepth 100000
set_option maxHeartbeats 4000000
set_option linter.unusedVariables false
set_option linter.unusedSimpArgs false
open Go.Sx
theorem bits_none (g : Nat → Bool) (n : Nat) (h : ∀ i, i < n → g i = false) : bitsN g n = 0 := by
  induction n with
  | zero => rfl
  | succ n ih => rw [bitsN, h n (by omega), ih fun i hi => h i (by omega)]; rfl
theorem stoIn {E : Env} {b z : Nat} {fs : List Fi} {es : List Fp} {H : List HProp} {w : World} (h : es.map Fp.F = fs) (s : St E (own b [.map (some z)] 154 :: omp .u64 z (fpm es) :: many (es.map Fp.own) :: H) w) : St E (stoP b fs :: H) w :=
  exO_in (p := fun a : Nat × List Fp => a.2.map Fp.F = fs) (L := stoA b) (z, es) h s
theorem filIn {E : Env} {b y : Nat} {F : Fi} {cs : List Ch} {H : List HProp} {w : World} (h : cs.map Ch.k = F.cs) (ok : F.Ok) (s : St E (own b (.int .u64 F.id :: .string F.nm :: .int .i64 F.sz :: .int .u8 (F.sm 0) :: .int .u8 (F.sm 1) :: .int .u8 (F.sm 2) :: .int .u8 (F.sm 3) :: .int .u8 (F.sm 4) :: .int .u8 (F.sm 5) :: .int .u8 (F.sm 6) :: .int .u8 (F.sm 7) :: .int .u8 (F.sm 8) :: .int .u8 (F.sm 9) :: .int .u8 (F.sm 10) :: .int .u8 (F.sm 11) :: .int .u8 (F.sm 12) :: .int .u8 (F.sm 13) :: .int .u8 (F.sm 14) :: .int .u8 (F.sm 15) :: .int .u8 (F.sm 16) :: .int .u8 (F.sm 17) :: .int .u8 (F.sm 18) :: .int .u8 (F.sm 19) :: .int .u8 (F.sm 20) :: .int .u8 (F.sm 21) :: .int .u8 (F.sm 22) :: .int .u8 (F.sm 23) :: .int .u8 (F.sm 24) :: .int .u8 (F.sm 25) :: .int .u8 (F.sm 26) :: .int .u8 (F.sm 27) :: .int .u8 (F.sm 28) :: .int .u8 (F.sm 29) :: .int .u8 (F.sm 30) :: .int .u8 (F.sm 31) :: .map (some y) :: []) 158 :: omp .i64 y (chm cs) :: many (cs.map Ch.own) :: H) w) : St E (filP b F :: H) w :=
  exO_in (p := fun a : Nat × List Ch => a.2.map Ch.k = F.cs ∧ F.Ok) (L := filA b F) (y, cs) ⟨h, ok⟩ s
theorem Does.sto {P : Program} {g : FuncId} {args : Array Value} {E : Env} {b : Nat} {fs : List Fi} {H : List HProp} {Q : Value → List HProp → Prop}
    (h : ∀ z es, es.map Fp.F = fs → Does P g args E (own b [.map (some z)] 154 :: omp .u64 z (fpm es) :: many (es.map Fp.own) :: H) Q) : Does P g args E (stoP b fs :: H) Q := by
  refine Does.exO ?_
  rintro ⟨z, es⟩ h0
  exact h z es h0
theorem sto_new (E : Env) : Does Try.prog 65 #[] E ([]) fun r H' => ∃ b, r = .pointer (some ⟨b, 0, none⟩) ∧ H' = [stoP b []] := by
  refine Does.post (Q := fun r H' => ∃ b z, r = .pointer (some ⟨b, 0, none⟩) ∧ H' = [own b [.map (some z)] 154, omp .u64 z []]) ?_ ?_
  · refine Does.go _ _ Try.func65 rfl Try.ntmps65 rfl rfl ?_
    skip
    refine Body.seq ?_
    refine Body.region ?_
    refine Ops.u (Dtu.asg (lk rfl)) rfl ?_
    refine Ops.nil ?_
    refine Then.next ?_
    refine Body.seq ?_
    refine Body.region ?_
    refine Ops.s (Stp.makeMap .u64 (fun r1 => ?_)) rfl
    refine Ops.u (Dtu.build ty154 pl154 (lkp rfl) rfl rfl) rfl ?_
    refine Ops.s (Stp.box (lk rfl) rfl (fun b3 => ?_)) rfl
    refine Ops.u (Dtu.asg (lk rfl)) rfl ?_
    refine Ops.nil ?_
    refine Then.next ?_
    refine Body.ret ?_
    exact ⟨.inr rfl, _, pk [0, 0] rfl, ⟨_, _, rfl, rfl⟩⟩
  · rintro _ _ ⟨b, z, rfl, rfl⟩
    refine ⟨_, fun w s => stoIn (z := z) (es := []) rfl ?_, b, rfl, rfl⟩
    exact (many_nil s).perm ((List.perm_append_comm (l₁ := [many []]) (l₂ := [_, _])))
theorem open_new (E : Env) (b : Nat) (fs : List Fi) (G : Fi) (hr : infoR G.id G.nm G.sz = true) (hn : sget fs G.id = none) (hl : fs.length < 16) : Does Try.prog 66 #[.pointer (some ⟨b, 0, none⟩), .agg (.int .u64 G.id :: .string G.nm :: .int .i64 G.sz :: .int .u8 (G.sm 0) :: .int .u8 (G.sm 1) :: .int .u8 (G.sm 2) :: .int .u8 (G.sm 3) :: .int .u8 (G.sm 4) :: .int .u8 (G.sm 5) :: .int .u8 (G.sm 6) :: .int .u8 (G.sm 7) :: .int .u8 (G.sm 8) :: .int .u8 (G.sm 9) :: .int .u8 (G.sm 10) :: .int .u8 (G.sm 11) :: .int .u8 (G.sm 12) :: .int .u8 (G.sm 13) :: .int .u8 (G.sm 14) :: .int .u8 (G.sm 15) :: .int .u8 (G.sm 16) :: .int .u8 (G.sm 17) :: .int .u8 (G.sm 18) :: .int .u8 (G.sm 19) :: .int .u8 (G.sm 20) :: .int .u8 (G.sm 21) :: .int .u8 (G.sm 22) :: .int .u8 (G.sm 23) :: .int .u8 (G.sm 24) :: .int .u8 (G.sm 25) :: .int .u8 (G.sm 26) :: .int .u8 (G.sm 27) :: .int .u8 (G.sm 28) :: .int .u8 (G.sm 29) :: .int .u8 (G.sm 30) :: .int .u8 (G.sm 31) :: []).toArray] E ([stoP b fs]) fun r H' => r = .tuple #[.agg #[.int .i64 (chZ G.sz), .int .u64 0], .int .i64 0] ∧ H' = [stoP b (fs ++ [⟨G.id, G.nm, G.sz, G.sm, []⟩])] := by
  refine Does.sto fun z es h0 => ?_
  subst h0
  have hm := fpm_none hn
  have hl2 := fpm_len es
  refine Does.go _ _ Try.func66 rfl Try.ntmps66 rfl rfl ?_
  skip
  refine Body.seq ?_
  refine Body.region ?_
  refine Ops.s (Stp.box (lk rfl) rfl (fun b3 => ?_)) rfl
  refine Ops.s (Stp.alloc ty86 (fun b4 => ?_)) rfl
  refine Ops.u (Dtu.asg (lk rfl)) rfl ?_
  refine Ops.nil ?_
  refine Then.next ?_
  refine Body.seq ?_
  refine Body.block ?_
  refine Body.seq ?_
  refine Body.region ?_
  refine Ops.u (Dtu.mv (lk rfl)) rfl ?_
  refine Ops.s (Stp.call rfl Try.call101 (lks rfl) (fun E' le hat => smade_b E' _ _ (by first | exact At.mono (by assumption) le | exact hat _ (.head _) | exact hat _ (.tail _ (.head _)) | exact hat _ (.tail _ (.tail _ (.head _))) | exact hat _ (.tail _ (.tail _ (.tail _ (.head _)))) | exact hat _ (.tail _ (.tail _ (.tail _ (.tail _ (.head _))))) | exact hat _ (.tail _ (.tail _ (.tail _ (.tail _ (.tail _ (.head _)))))) | exact hat _ (.tail _ (.tail _ (.tail _ (.tail _ (.tail _ (.tail _ (.head _))))))) | exact hat _ (.tail _ (.tail _ (.tail _ (.tail _ (.tail _ (.tail _ (.tail _ (.head _)))))))) | exact hat _ (.tail _ (.tail _ (.tail _ (.tail _ (.tail _ (.tail _ (.tail _ (.tail _ (.head _))))))))) | exact hat _ (.tail _ (.tail _ (.tail _ (.tail _ (.tail _ (.tail _ (.tail _ (.tail _ (.tail _ (.head _)))))))))))) ?_) rfl
  rintro _ _ ⟨rfl, rfl⟩
  refine Ops.u (Dtu.not (lk rfl)) rfl ?_
  refine Ops.u (Dtu.asg (lk rfl)) rfl ?_
  refine Ops.nil ?_
  refine Then.next ?_
  refine Body.condF (lk rfl) ?_
  refine Body.seq ?_
  refine Body.region ?_
  refine Ops.d (Det.lda Try.isAgg82 Try.sizeOf82 (lk rfl) (Rds.ow (m := 35) 1 rfl rfl) rfl) rfl ?_
  refine Ops.s (Stp.call rfl Try.call38 (lks rfl) (fun E' le hat => sright_ok E' _ _ _ _) ?_) rfl
  rintro _ _ ⟨rfl, rfl⟩
  refine Ops.u (Dtu.not (lk rfl)) rfl ?_
  refine Ops.u (Dtu.asg (lk rfl)) rfl ?_
  refine Ops.nil ?_
  refine Then.next ?_
  refine Body.cond (lk rfl) (fun hn => absurd hn (by first | (rw [hr]; decide) | simp [hr])) (fun _ => ?_)
  refine Body.skip ?_
  refine Blk.norm ?_
  refine Then.next ?_
  refine Body.seq ?_
  refine Body.draw mixed ?_
  refine AB.u 0 rfl (by decide +kernel) (Dtu.mv (lk rfl)) rfl ?_
  refine AB.u 1 rfl (by decide +kernel) (Dtu.nilck (lk rfl)) rfl ?_
  refine AB.u 2 rfl (by decide +kernel) (Dtu.fld fa154_0 (lk rfl)) rfl ?_
  refine AB.d 3 rfl (by decide +kernel) rfl (Det.ld Try.isAgg152 (lk rfl) (Rd.ow 2 rfl rfl)) rfl ?_
  refine AB.u 4 rfl (by decide +kernel) (Dtu.fld fa82_0 (lk rfl)) rfl ?_
  refine AB.d 5 rfl (by decide +kernel) rfl (Det.ld Try.isAgg72 (lk rfl) (Rd.ow 1 rfl rfl)) rfl ?_
  refine AB.d 6 rfl (by decide +kernel) rfl (Det.lookN Try.underlying152 Try.underlying72 (Mp.ow 3 rfl) (lk rfl) (lk rfl) (by with_reducible assumption) zv155) rfl ?_
  refine AB.u 7 rfl (by decide +kernel) (Dtu.asg (lk rfl)) rfl ?_
  refine AB.done (by decide +kernel) ?_
  refine Then.next ?_
  refine Body.seq ?_
  refine Body.block ?_
  refine Body.seq ?_
  refine Body.draw mixed ?_
  refine AB.u 0 rfl (by decide +kernel) (Dtu.mv (lk rfl)) rfl ?_
  refine AB.u 1 rfl (by decide +kernel) (Dtu.neNil Try.underlying155 (lk rfl) (lk rfl)) rfl ?_
  refine AB.u 2 rfl (by decide +kernel) (Dtu.mv (lk rfl)) rfl ?_
  refine AB.gn 3 rfl (by decide +kernel) rfl rfl rfl rfl rfl ?_
  refine AB.gn 4 rfl (by decide +kernel) rfl rfl rfl rfl rfl ?_
  refine AB.gn 5 rfl (by decide +kernel) rfl rfl rfl rfl rfl ?_
  refine AB.gn 6 rfl (by decide +kernel) rfl rfl rfl rfl rfl ?_
  refine AB.gn 7 rfl (by decide +kernel) rfl rfl rfl rfl rfl ?_
  refine AB.gn 8 rfl (by decide +kernel) rfl rfl rfl rfl rfl ?_
  refine AB.u 9 rfl (by decide +kernel) (Dtu.pickF (lk rfl) (lk rfl)) rfl ?_
  refine AB.u 10 rfl (by decide +kernel) (Dtu.asg (lk rfl)) rfl ?_
  refine AB.done (by decide +kernel) ?_
  refine Then.next ?_
  refine Body.condF (lk rfl) ?_
  refine Body.seq ?_
  refine Body.region ?_
  refine Ops.u (Dtu.mv (lk rfl)) rfl ?_
  refine Ops.u (Dtu.eqNil Try.underlying155 (lk rfl) (lk rfl)) rfl ?_
  refine Ops.u (Dtu.mv (lk rfl)) rfl ?_
  refine Ops.gu rfl rfl rfl (Dtu.mv (lk rfl)) rfl ?_
  refine Ops.gu rfl rfl rfl (Dtu.nilck (lk rfl)) rfl ?_
  refine Ops.gu rfl rfl rfl (Dtu.fld fa154_0 (lk rfl)) rfl ?_
  refine Ops.gd rfl rfl rfl (Det.ld Try.isAgg152 (lk rfl) (Rd.ow 2 rfl rfl)) rfl ?_
  refine Ops.gd rfl rfl rfl (Det.mlen Try.underlying152 (Mp.ow 3 rfl) (lk rfl)) rfl ?_
  refine Ops.gu rfl rfl rfl (Dtu.geq (lk rfl) (lk rfl)) rfl ?_
  refine Ops.u (Dtu.pickT (lk rfl) (lk rfl)) rfl ?_
  refine Ops.u (Dtu.asg (lk rfl)) rfl ?_
  refine Ops.nil ?_
  refine Then.next ?_
  refine Body.condP (lk rfl) (fun hy => absurd hy (by first | omega | assumption | decide)) (fun _ => ?_)
  refine Body.seq ?_
  refine Body.region ?_
  refine Ops.u (Dtu.mv (lk rfl)) rfl ?_
  refine Ops.u (Dtu.eqNil Try.underlying155 (lk rfl) (lk rfl)) rfl ?_
  refine Ops.u (Dtu.asg (lk rfl)) rfl ?_
  refine Ops.nil ?_
  refine Then.next ?_
  refine Body.condT (lk rfl) ?_
  refine Body.seq ?_
  refine Body.region ?_
  refine Ops.d (Det.lda Try.isAgg82 Try.sizeOf82 (lk rfl) (Rds.ow (m := 35) 1 rfl rfl) rfl) rfl ?_
  refine Ops.s (Stp.makeMap .i64 (fun r52 => ?_)) rfl
  refine Ops.u (Dtu.build ty158 pl158 (lkp rfl) rfl rfl) rfl ?_
  refine Ops.s (Stp.box (lk rfl) rfl (fun b54 => ?_)) rfl
  refine Ops.u (Dtu.asg (lk rfl)) rfl ?_
  refine Ops.nil ?_
  refine Then.next ?_
  refine Body.draw mixed ?_
  refine AB.u 0 rfl (by decide +kernel) (Dtu.mv (lk rfl)) rfl ?_
  refine AB.u 1 rfl (by decide +kernel) (Dtu.nilck (lk rfl)) rfl ?_
  refine AB.u 2 rfl (by decide +kernel) (Dtu.fld fa154_0 (lk rfl)) rfl ?_
  refine AB.d 3 rfl (by decide +kernel) rfl (Det.ld Try.isAgg152 (lk rfl) (Rd.ow 4 rfl rfl)) rfl ?_
  refine AB.u 4 rfl (by decide +kernel) (Dtu.fld fa82_0 (lk rfl)) rfl ?_
  refine AB.d 5 rfl (by decide +kernel) rfl (Det.ld Try.isAgg72 (lk rfl) (Rd.ow 3 rfl rfl)) rfl ?_
  refine AB.u 6 rfl (by decide +kernel) (Dtu.mv (lk rfl)) rfl ?_
  refine AB.e 7 rfl (by decide +kernel) (by decide +kernel) (Stp.mput 5 Try.underlying152 Try.underlying72 rfl (lk rfl) (lk rfl) (lk rfl) rfl ?_)
  refine AB.done (by decide +kernel) ?_
  refine Blk.norm ?_
  refine Then.next ?_
  refine Body.seq ?_
  refine Body.region ?_
  refine Ops.u (Dtu.mv (lk rfl)) rfl ?_
  have ok : (⟨G.id, G.nm, G.sz, G.sm, []⟩ : Fi).Ok := ⟨hr, by simp⟩
  refine Ops.conseq (H' := [filP b54 (⟨G.id, G.nm, G.sz, G.sm, []⟩ : Fi), own b [.map (some z)] 154, omp .u64 z (fpm (es ++ [⟨⟨G.id, G.nm, G.sz, G.sm, []⟩, b54⟩])), many (es.map Fp.own), own b4 [.int .i64 0, .int .u64 0] 86]) (fun w s => filIn (y := r52) (F := ⟨G.id, G.nm, G.sz, G.sm, []⟩) (cs := []) rfl ok ?_) ?_
  · rw [← fpm_new (e := ⟨⟨G.id, G.nm, G.sz, G.sm, []⟩, b54⟩) hn]
    exact (many_nil (pk [0, 0, 2, 2, 2, 0] rfl w s)).perm ((List.Perm.swap _ _ _).trans (List.Perm.cons _ (List.Perm.swap _ _ _)))
  have hb : (⟨G.id, G.nm, G.sz, G.sm, []⟩ : Fi).bits = 0 := bits_none _ _ fun i _ => rfl
  have hN : (((⟨G.id, G.nm, G.sz, G.sm, []⟩ : Fi).n : Nat) : Int) = chZ G.sz := Fi.n_eq _
  have hS : ∀ w, St E [filP b54 (⟨G.id, G.nm, G.sz, G.sm, []⟩ : Fi), own b [.map (some z)] 154, omp .u64 z (fpm (es ++ [⟨⟨G.id, G.nm, G.sz, G.sm, []⟩, b54⟩])), many (es.map Fp.own)] w → St E [stoP b (es.map Fp.F ++ [⟨G.id, G.nm, G.sz, G.sm, []⟩])] w := fun w s =>
    stoIn (z := z) (es := es ++ [⟨⟨G.id, G.nm, G.sz, G.sm, []⟩, b54⟩]) (by simp) (by
      rw [List.map_append]
      exact (many_snoc (A := filP b54 ⟨G.id, G.nm, G.sz, G.sm, []⟩) (pk [0, 2, 0, 0] rfl w s)).perm ((List.Perm.swap _ _ _).trans (List.Perm.cons _ (List.Perm.swap _ _ _))))
  generalize (⟨G.id, G.nm, G.sz, G.sm, []⟩ : Fi) = F' at *
  refine Ops.s (Stp.call rfl Try.call102 (lks rfl) (fun E' le hat => bits_r E' _ _ (by first | exact At.mono (by assumption) le | exact hat _ (.head _) | exact hat _ (.tail _ (.head _)) | exact hat _ (.tail _ (.tail _ (.head _))) | exact hat _ (.tail _ (.tail _ (.tail _ (.head _)))) | exact hat _ (.tail _ (.tail _ (.tail _ (.tail _ (.head _))))) | exact hat _ (.tail _ (.tail _ (.tail _ (.tail _ (.tail _ (.head _)))))) | exact hat _ (.tail _ (.tail _ (.tail _ (.tail _ (.tail _ (.tail _ (.head _))))))) | exact hat _ (.tail _ (.tail _ (.tail _ (.tail _ (.tail _ (.tail _ (.tail _ (.head _)))))))) | exact hat _ (.tail _ (.tail _ (.tail _ (.tail _ (.tail _ (.tail _ (.tail _ (.tail _ (.head _))))))))) | exact hat _ (.tail _ (.tail _ (.tail _ (.tail _ (.tail _ (.tail _ (.tail _ (.tail _ (.tail _ (.head _)))))))))))) ?_) rfl
  rintro _ _ ⟨rfl, rfl⟩
  refine Ops.u (Dtu.ext (lk rfl) rfl) rfl ?_
  refine Ops.u (Dtu.ext (lk rfl) rfl) rfl ?_
  refine Ops.e (Stp.store 4 Try.sizeOf86 (lk rfl) (lk rfl) rfl rfl rfl rfl rfl rfl rfl ?_)
  refine Ops.u (Dtu.asg (lk rfl)) rfl ?_
  refine Ops.nil ?_
  refine Then.next ?_
  refine Body.ret ?_
  (exact ⟨.inr rfl, _, Loads.agg Try.isAgg86 Try.sizeOf86 (Rds.ow (m := 2) 4 rfl rfl) rfl, _, fun w s => hS w (pk [0, 0, 0, 0] rfl w s), by rw [hb, hN]; rfl, rfl⟩)
end Go.Proofs.Ytpmapedhigjalaa
end
section
/- store: Write, Drop, Damage. -/
namespace Go.Proofs.Ytpmapedhigjalaa
set_option maxRecDepth 100000
set_option maxHeartbeats 4000000
set_option linter.unusedVariables false
set_option linter.unusedSimpArgs false
open Go.Sx
theorem cput_mem {l : List Kc} {x c : Kc} (h : c ∈ cput l x) : c = x ∨ c ∈ l := by
  induction l with
  | nil => exact .inl (by simpa [cput] using h)
  | cons y l ih =>
    simp only [cput] at h
    split at h
    · rcases List.mem_cons.1 h with h | h
      · exact .inl h
      · exact .inr (.tail _ h)
    · rcases List.mem_cons.1 h with rfl | h
      · exact .inr (.head _)
      · exact (ih h).imp id fun h => .tail _ h
/-- a file with a chunk -/
def Fi.puts (F : Fi) (c : Kc) : Fi := ⟨F.id, F.nm, F.sz, F.sm, cput F.cs c⟩
theorem Fi.puts_ok {F : Fi} {c : Kc} (ok : F.Ok) (h1 : 0 ≤ c.i ∧ c.i < chZ F.sz) (h2 : c.d.length = lenZ F.sz c.i) (h3 : Byt c.d) : (F.puts c).Ok :=
  ⟨ok.r, fun x hx => by
    rcases cput_mem hx with rfl | hx
    · exact ⟨h1.1, h1.2, h2, h3⟩
    · exact ok.cs x hx⟩
/-- what one file of a store owns, and the others -/
theorem Does.stoY {P : Program} {g : FuncId} {args : Array Value} {E : Env} {b : Nat} {fs : List Fi} {id : Int} {F : Fi} {H : List HProp} {Q : Value → List HProp → Prop} (hn : sget fs id = some F)
    (h : ∀ z fb y cs rest es, cs.map Ch.k = F.cs → F.Ok → F.id = id → mget (fpm es) id = some (.pointer (some ⟨fb, 0, none⟩)) →
      (∀ (F' : Fi) cs' w H, F'.id = id → cs'.map Ch.k = F'.cs → F'.Ok → St E ((filA fb F' (y, cs') ++ [own b [.map (some z)] 154, omp .u64 z (fpm es), many rest]) ++ H) w → St E (stoP b (sput fs F') :: H) w) →
      Does P g args E (own fb (.int .u64 F.id :: .string F.nm :: .int .i64 F.sz :: .int .u8 (F.sm 0) :: .int .u8 (F.sm 1) :: .int .u8 (F.sm 2) :: .int .u8 (F.sm 3) :: .int .u8 (F.sm 4) :: .int .u8 (F.sm 5) :: .int .u8 (F.sm 6) :: .int .u8 (F.sm 7) :: .int .u8 (F.sm 8) :: .int .u8 (F.sm 9) :: .int .u8 (F.sm 10) :: .int .u8 (F.sm 11) :: .int .u8 (F.sm 12) :: .int .u8 (F.sm 13) :: .int .u8 (F.sm 14) :: .int .u8 (F.sm 15) :: .int .u8 (F.sm 16) :: .int .u8 (F.sm 17) :: .int .u8 (F.sm 18) :: .int .u8 (F.sm 19) :: .int .u8 (F.sm 20) :: .int .u8 (F.sm 21) :: .int .u8 (F.sm 22) :: .int .u8 (F.sm 23) :: .int .u8 (F.sm 24) :: .int .u8 (F.sm 25) :: .int .u8 (F.sm 26) :: .int .u8 (F.sm 27) :: .int .u8 (F.sm 28) :: .int .u8 (F.sm 29) :: .int .u8 (F.sm 30) :: .int .u8 (F.sm 31) :: .map (some y) :: []) 158 :: omp .i64 y (chm cs) :: many (cs.map Ch.own) :: own b [.map (some z)] 154 :: omp .u64 z (fpm es) :: many rest :: H) Q) : Does P g args E (stoP b fs :: H) Q := by
  refine Does.sto fun z es h0 => ?_
  subst h0
  obtain ⟨A, e, C, rfl, h1, h2, hm, h4, h5, h6⟩ := fpm_some hn
  obtain ⟨F0, fb⟩ := e
  dsimp only at h1
  subst h1
  refine Does.pre fun w s => ?_
  have s1 : St E (many ((A ++ (⟨F0, fb⟩ : Fp) :: C).map Fp.own) :: own b [.map (some z)] 154 :: omp .u64 z (fpm (A ++ (⟨F0, fb⟩ : Fp) :: C)) :: H) w := s.perm (List.perm_append_comm (l₁ := [_, _]) (l₂ := [_]) |>.append_right H)
  rw [List.map_append, List.map_cons] at s1
  have s2 := poolTake s1
  obtain ⟨⟨y, cs⟩, ⟨q1, q2⟩, s3⟩ := exO_out (show St E (exO _ (filA fb F0) :: _) w from s2)
  refine ⟨_, ?_, h z fb y cs (A.map Fp.own ++ C.map Fp.own) (A ++ (⟨F0, fb⟩ : Fp) :: C) q1 q2 h2 hm ?_⟩
  · exact s3.perm (List.Perm.append_left [_, _, _] (List.perm_append_comm (l₁ := [_]) (l₂ := [_, _]) |>.append_right H))
  · intro F' cs' w' H' e1 e2 e3 s4
    obtain ⟨k1, k2⟩ := h5 F' e1
    rw [← k2] at s4
    refine stoIn (z := z) (es := A ++ (⟨F', fb⟩ : Fp) :: C) k1 ?_
    have s5 : St E (filP fb F' :: many (A.map Fp.own ++ C.map Fp.own) :: own b [.map (some z)] 154 :: omp .u64 z (fpm (A ++ (⟨F', fb⟩ : Fp) :: C)) :: H') w' := by
      refine filIn (y := y) (cs := cs') e2 e3 ?_
      exact s4.perm (List.Perm.append_left [_, _, _] (List.perm_append_comm (l₁ := [_, _]) (l₂ := [_]) |>.append_right H'))
    have s6 : St E (many (A.map Fp.own ++ filP fb F' :: C.map Fp.own) :: _) w' := poolPut s5
    rw [List.map_append, List.map_cons]
    exact s6.perm (List.perm_append_comm (l₁ := [_]) (l₂ := [_, _]) |>.append_right H')
theorem hput_all {E : Env} {A : HProp} {y : Nat} {cs : List Ch} {c : Ch} {H : List HProp} {w : World} (s : St E (c.own :: A :: omp .i64 y (mput (chm cs) c.k.i c.val) :: many (cs.map Ch.own) :: H) w) : St E (A :: omp .i64 y (chm (hput cs c)) :: many ((hput cs c).map Ch.own) :: H) w := by
  rw [hput_m] at s
  have s1 : St E (c.own :: many (cs.map Ch.own) :: A :: omp .i64 y (chm (hput cs c)) :: H) w := s.perm (List.Perm.cons _ (List.perm_append_comm (l₁ := [_, _]) (l₂ := [_]) |>.append_right H))
  exact (hput_own s1).perm (List.perm_append_comm (l₁ := [_]) (l₂ := [_, _]) |>.append_right H)
theorem write_a (E : Env) (b : Nat) (fs : List Fi) (id i : Int) (v : Value) (d : List Int) (F : Fi) (hs : Sl E [] 1 v d.length (d.map (.int .u8))) (hA : At (stoP b fs) E) (hn : sget fs id = some F) (hw : ¬ (0 ≤ i ∧ i < chZ F.sz ∧ (d.length : Int) = lenZ F.sz i)) : Does Try.prog 68 #[.pointer (some ⟨b, 0, none⟩), .int .u64 id, .int .i64 i, v] E ([]) fun r H' => r = .int .i64 1 ∧ H' = [] := by
  refine Does.pure (Sl.shape hs) fun ⟨va, vc, hv⟩ => ?_
  subst hv
  obtain ⟨z, es, rfl, a1, a2, a3⟩ := stoAt hA
  obtain ⟨A, e, C, rfl, h1, h2, hm, h4, h5, h6⟩ := fpm_some hn
  obtain ⟨F, b9⟩ := e
  dsimp only at h1
  subst h1
  obtain ⟨y, cs, f1, f2, f3, f4, f5⟩ := filAt (a3 ⟨F, b9⟩ (by simp))
  dsimp only at f1 f3 f4
  rw [Fp.ptr] at hm
  dsimp only at hm
  refine Does.go _ _ Try.func68 rfl Try.ntmps68 rfl rfl ?_
  skip
  refine Body.seq ?_
  refine Body.region ?_
  refine Ops.u (Dtu.asg (lk rfl)) rfl ?_
  refine Ops.nil ?_
  refine Then.next ?_
  refine Body.seq ?_
  refine Body.region ?_
  refine Ops.u (Dtu.mv (lk rfl)) rfl ?_
  refine Ops.u (Dtu.mv (lk rfl)) rfl ?_
  refine Ops.s (Stp.call rfl Try.call105 (lks rfl) (fun E' le hat => find_y E' _ _ _ _ _ (by first | exact At.mono (by assumption) le | exact hat _ (.head _) | exact hat _ (.tail _ (.head _)) | exact hat _ (.tail _ (.tail _ (.head _))) | exact hat _ (.tail _ (.tail _ (.tail _ (.head _)))) | exact hat _ (.tail _ (.tail _ (.tail _ (.tail _ (.head _))))) | exact hat _ (.tail _ (.tail _ (.tail _ (.tail _ (.tail _ (.head _)))))) | exact hat _ (.tail _ (.tail _ (.tail _ (.tail _ (.tail _ (.tail _ (.head _))))))) | exact hat _ (.tail _ (.tail _ (.tail _ (.tail _ (.tail _ (.tail _ (.tail _ (.head _)))))))) | exact hat _ (.tail _ (.tail _ (.tail _ (.tail _ (.tail _ (.tail _ (.tail _ (.tail _ (.head _))))))))) | exact hat _ (.tail _ (.tail _ (.tail _ (.tail _ (.tail _ (.tail _ (.tail _ (.tail _ (.tail _ (.head _))))))))))) (by first | exact Mp.mono (by assumption) le | exact Mp.at ((by first | exact At.mono (by assumption) le | exact hat _ (.head _) | exact hat _ (.tail _ (.head _)) | exact hat _ (.tail _ (.tail _ (.head _))) | exact hat _ (.tail _ (.tail _ (.tail _ (.head _)))) | exact hat _ (.tail _ (.tail _ (.tail _ (.tail _ (.head _))))) | exact hat _ (.tail _ (.tail _ (.tail _ (.tail _ (.tail _ (.head _)))))) | exact hat _ (.tail _ (.tail _ (.tail _ (.tail _ (.tail _ (.tail _ (.head _))))))) | exact hat _ (.tail _ (.tail _ (.tail _ (.tail _ (.tail _ (.tail _ (.tail _ (.head _)))))))) | exact hat _ (.tail _ (.tail _ (.tail _ (.tail _ (.tail _ (.tail _ (.tail _ (.tail _ (.head _))))))))) | exact hat _ (.tail _ (.tail _ (.tail _ (.tail _ (.tail _ (.tail _ (.tail _ (.tail _ (.tail _ (.head _))))))))))))) (by assumption)) ?_) rfl
  rintro _ _ ⟨rfl, rfl⟩
  refine Ops.u (Dtu.mv (lk rfl)) rfl ?_
  refine Ops.u (Dtu.ext (lk rfl) rfl) rfl ?_
  refine Ops.u (Dtu.ext (lk rfl) rfl) rfl ?_
  refine Ops.u (Dtu.asg (lk rfl)) rfl ?_
  refine Ops.u (Dtu.asg (lk rfl)) rfl ?_
  refine Ops.nil ?_
  refine Then.next ?_
  refine Body.seq ?_
  refine Body.block ?_
  refine Body.seq ?_
  refine Body.region ?_
  refine Ops.u (Dtu.mv (lk rfl)) rfl ?_
  refine Ops.u (Dtu.neq (lk rfl) (lk rfl)) rfl ?_
  refine Ops.u (Dtu.asg (lk rfl)) rfl ?_
  refine Ops.nil ?_
  refine Then.next ?_
  refine Body.condP (lk rfl) (fun hy => absurd hy (by first | omega | assumption | decide)) (fun _ => ?_)
  refine Body.seq ?_
  refine Body.region ?_
  refine Ops.u (Dtu.mv (lk rfl)) rfl ?_
  refine Ops.u (Dtu.lss (lk rfl) (lk rfl)) rfl ?_
  refine Ops.u (Dtu.mv (lk rfl)) rfl ?_
  refine Ops.decP 24 rfl (fun c24 => ?_) (fun c24 => ?_)
  · refine Ops.gn rfl rfl rfl rfl rfl ?_
    refine Ops.gn rfl rfl rfl rfl rfl ?_
    refine Ops.gn rfl rfl rfl rfl rfl ?_
    refine Ops.gn rfl rfl rfl rfl rfl ?_
    refine Ops.gn rfl rfl rfl rfl rfl ?_
    refine Ops.gn rfl rfl rfl rfl rfl ?_
    refine Ops.gn rfl rfl rfl rfl rfl ?_
    refine Ops.gn rfl rfl rfl rfl rfl ?_
    refine Ops.u (Dtu.pickT (lk rfl) (lk rfl)) rfl ?_
    refine Ops.u (Dtu.mv (lk rfl)) rfl ?_
    refine Ops.gn rfl rfl rfl rfl rfl ?_
    refine Ops.gn rfl rfl rfl rfl rfl ?_
    refine Ops.gn rfl rfl rfl rfl rfl ?_
    refine Ops.gn rfl rfl rfl rfl rfl ?_
    refine Ops.gn rfl rfl rfl rfl rfl ?_
    refine Ops.gn rfl rfl rfl rfl rfl ?_
    refine Ops.gn rfl rfl rfl rfl rfl ?_
    refine Ops.gn rfl rfl rfl rfl rfl ?_
    refine Ops.gn rfl rfl rfl rfl rfl ?_
    refine Ops.gn rfl rfl rfl rfl rfl ?_
    refine Ops.u (Dtu.pickT (lk rfl) (lk rfl)) rfl ?_
    refine Ops.u (Dtu.asg (lk rfl)) rfl ?_
    refine Ops.nil ?_
    refine Then.next ?_
    refine Body.condT (lk rfl) ?_
    refine Body.seq ?_
    refine Body.region ?_
    refine Ops.u (Dtu.asg (lk rfl)) rfl ?_
    refine Ops.nil ?_
    refine Then.next ?_
    refine Body.ret ?_
    refine Blk.ret ?_
    refine Then.ret ?_
    exact ⟨.inr rfl, _, pk [] rfl, rfl, rfl⟩
  · refine Ops.gu rfl rfl rfl (Dtu.mv (lk rfl)) rfl ?_
    refine Ops.gu rfl rfl rfl (Dtu.mv (lk rfl)) rfl ?_
    refine Ops.gu rfl rfl rfl (Dtu.nilck (lk rfl)) rfl ?_
    refine Ops.gu rfl rfl rfl (Dtu.fld fa158_0 (lk rfl)) rfl ?_
    refine Ops.gu rfl rfl rfl (Dtu.fld fa82_2 (lk rfl)) rfl ?_
    refine Ops.gd rfl rfl rfl (Det.ld Try.isAgg3 (lk rfl) (Rd.env (own_at f3 rfl))) rfl ?_
    refine Ops.gs rfl rfl rfl (Stp.call rfl Try.call62 (lks rfl) (fun E' le hat => schunks_ok E' _) ?_) rfl
    rintro _ _ ⟨rfl, rfl⟩
    refine Ops.gu rfl rfl rfl (Dtu.geq (lk rfl) (lk rfl)) rfl ?_
    refine Ops.u (Dtu.pickF (lk rfl) (lk rfl)) rfl ?_
    refine Ops.u (Dtu.mv (lk rfl)) rfl ?_
    refine Ops.decP 34 rfl (fun c34 => ?_) (fun c34 => ?_)
    · refine Ops.gn rfl rfl rfl rfl rfl ?_
      refine Ops.gn rfl rfl rfl rfl rfl ?_
      refine Ops.gn rfl rfl rfl rfl rfl ?_
      refine Ops.gn rfl rfl rfl rfl rfl ?_
      refine Ops.gn rfl rfl rfl rfl rfl ?_
      refine Ops.gn rfl rfl rfl rfl rfl ?_
      refine Ops.gn rfl rfl rfl rfl rfl ?_
      refine Ops.gn rfl rfl rfl rfl rfl ?_
      refine Ops.gn rfl rfl rfl rfl rfl ?_
      refine Ops.gn rfl rfl rfl rfl rfl ?_
      refine Ops.u (Dtu.pickT (lk rfl) (lk rfl)) rfl ?_
      refine Ops.u (Dtu.asg (lk rfl)) rfl ?_
      refine Ops.nil ?_
      refine Then.next ?_
      refine Body.condT (lk rfl) ?_
      refine Body.seq ?_
      refine Body.region ?_
      refine Ops.u (Dtu.asg (lk rfl)) rfl ?_
      refine Ops.nil ?_
      refine Then.next ?_
      refine Body.ret ?_
      refine Blk.ret ?_
      refine Then.ret ?_
      exact ⟨.inr rfl, _, pk [] rfl, rfl, rfl⟩
    · refine Ops.gu rfl rfl rfl (Dtu.mv (lk rfl)) rfl ?_
      refine Ops.gu rfl rfl rfl (Dtu.lenS Try.underlying73 (Sl.up hs) (lk rfl)) rfl ?_
      refine Ops.gu rfl rfl rfl (Dtu.mv (lk rfl)) rfl ?_
      refine Ops.gu rfl rfl rfl (Dtu.nilck (lk rfl)) rfl ?_
      refine Ops.gu rfl rfl rfl (Dtu.fld fa158_0 (lk rfl)) rfl ?_
      refine Ops.gu rfl rfl rfl (Dtu.fld fa82_2 (lk rfl)) rfl ?_
      refine Ops.gd rfl rfl rfl (Det.ld Try.isAgg3 (lk rfl) (Rd.env (own_at f3 rfl))) rfl ?_
      refine Ops.gu rfl rfl rfl (Dtu.mv (lk rfl)) rfl ?_
      refine Ops.gs rfl rfl rfl (Stp.call rfl Try.call63 (lks rfl) (fun E' le hat => slength_ok E' _ _) ?_) rfl
      rintro _ _ ⟨rfl, rfl⟩
      refine Ops.gu rfl rfl rfl (Dtu.neq (lk rfl) (lk rfl)) rfl ?_
      refine Ops.u (Dtu.pickF (lk rfl) (lk rfl)) rfl ?_
      refine Ops.u (Dtu.asg (lk rfl)) rfl ?_
      refine Ops.nil ?_
      refine Then.next ?_
      refine Body.condP (lk rfl) (fun _ => ?_) (fun hn => absurd (by first | omega | assumption | decide) hn)
      refine Body.seq ?_
      refine Body.region ?_
      refine Ops.u (Dtu.asg (lk rfl)) rfl ?_
      refine Ops.nil ?_
      refine Then.next ?_
      refine Body.ret ?_
      refine Blk.ret ?_
      refine Then.ret ?_
      exact ⟨.inr rfl, _, pk [] rfl, rfl, rfl⟩
theorem write_y (E : Env) (b : Nat) (fs : List Fi) (id i : Int) (v : Value) (d : List Int) (F : Fi) (hs : Sl E [] 1 v d.length (d.map (.int .u8))) (hb : Byt d) (hn : sget fs id = some F) (hw : 0 ≤ i ∧ i < chZ F.sz) (hl : (d.length : Int) = lenZ F.sz i) : Does Try.prog 68 #[.pointer (some ⟨b, 0, none⟩), .int .u64 id, .int .i64 i, v] E ([stoP b fs]) fun r H' => r = .int .i64 0 ∧ H' = [stoP b (sput fs (F.puts ⟨i, d, crOf (d.map Int.toNat)⟩))] := by
  refine Does.pure (Sl.shape hs.up) fun ⟨va, vc, hv⟩ => ?_
  subst hv
  refine Does.stoY hn fun z fb y cs rest es f1 ok hid hm shut => ?_
  have hw1 := hw.1
  have hw2 := hw.2
  have hd64 : d.length ≤ 64 := by unfold lenZ at hl; split at hl <;> omega
  refine Does.go _ _ Try.func68 rfl Try.ntmps68 rfl rfl ?_
  skip
  refine Body.seq ?_
  refine Body.region ?_
  refine Ops.u (Dtu.asg (lk rfl)) rfl ?_
  refine Ops.nil ?_
  refine Then.next ?_
  refine Body.seq ?_
  refine Body.region ?_
  refine Ops.u (Dtu.mv (lk rfl)) rfl ?_
  refine Ops.u (Dtu.mv (lk rfl)) rfl ?_
  refine Ops.s (Stp.call rfl Try.call105 (lks rfl) (fun E' le hat => find_y E' _ _ _ _ _ (by first | exact At.mono (by assumption) le | exact hat _ (.head _) | exact hat _ (.tail _ (.head _)) | exact hat _ (.tail _ (.tail _ (.head _))) | exact hat _ (.tail _ (.tail _ (.tail _ (.head _)))) | exact hat _ (.tail _ (.tail _ (.tail _ (.tail _ (.head _))))) | exact hat _ (.tail _ (.tail _ (.tail _ (.tail _ (.tail _ (.head _)))))) | exact hat _ (.tail _ (.tail _ (.tail _ (.tail _ (.tail _ (.tail _ (.head _))))))) | exact hat _ (.tail _ (.tail _ (.tail _ (.tail _ (.tail _ (.tail _ (.tail _ (.head _)))))))) | exact hat _ (.tail _ (.tail _ (.tail _ (.tail _ (.tail _ (.tail _ (.tail _ (.tail _ (.head _))))))))) | exact hat _ (.tail _ (.tail _ (.tail _ (.tail _ (.tail _ (.tail _ (.tail _ (.tail _ (.tail _ (.head _))))))))))) (by first | exact Mp.mono (by assumption) le | exact Mp.at ((by first | exact At.mono (by assumption) le | exact hat _ (.head _) | exact hat _ (.tail _ (.head _)) | exact hat _ (.tail _ (.tail _ (.head _))) | exact hat _ (.tail _ (.tail _ (.tail _ (.head _)))) | exact hat _ (.tail _ (.tail _ (.tail _ (.tail _ (.head _))))) | exact hat _ (.tail _ (.tail _ (.tail _ (.tail _ (.tail _ (.head _)))))) | exact hat _ (.tail _ (.tail _ (.tail _ (.tail _ (.tail _ (.tail _ (.head _))))))) | exact hat _ (.tail _ (.tail _ (.tail _ (.tail _ (.tail _ (.tail _ (.tail _ (.head _)))))))) | exact hat _ (.tail _ (.tail _ (.tail _ (.tail _ (.tail _ (.tail _ (.tail _ (.tail _ (.head _))))))))) | exact hat _ (.tail _ (.tail _ (.tail _ (.tail _ (.tail _ (.tail _ (.tail _ (.tail _ (.tail _ (.head _))))))))))))) (by assumption)) ?_) rfl
  rintro _ _ ⟨rfl, rfl⟩
  refine Ops.u (Dtu.mv (lk rfl)) rfl ?_
  refine Ops.u (Dtu.ext (lk rfl) rfl) rfl ?_
  refine Ops.u (Dtu.ext (lk rfl) rfl) rfl ?_
  refine Ops.u (Dtu.asg (lk rfl)) rfl ?_
  refine Ops.u (Dtu.asg (lk rfl)) rfl ?_
  refine Ops.nil ?_
  refine Then.next ?_
  refine Body.seq ?_
  refine Body.block ?_
  refine Body.seq ?_
  refine Body.region ?_
  refine Ops.u (Dtu.mv (lk rfl)) rfl ?_
  refine Ops.u (Dtu.neq (lk rfl) (lk rfl)) rfl ?_
  refine Ops.u (Dtu.asg (lk rfl)) rfl ?_
  refine Ops.nil ?_
  refine Then.next ?_
  refine Body.condP (lk rfl) (fun hy => absurd hy (by first | omega | assumption | decide)) (fun _ => ?_)
  refine Body.seq ?_
  refine Body.region ?_
  refine Ops.u (Dtu.mv (lk rfl)) rfl ?_
  refine Ops.u (Dtu.lss (lk rfl) (lk rfl)) rfl ?_
  refine Ops.u (Dtu.mv (lk rfl)) rfl ?_
  refine Ops.decP 24 rfl (fun hy => absurd hy (by first | omega | assumption | decide)) (fun _ => ?_)
  refine Ops.gu rfl rfl rfl (Dtu.mv (lk rfl)) rfl ?_
  refine Ops.gu rfl rfl rfl (Dtu.mv (lk rfl)) rfl ?_
  refine Ops.gu rfl rfl rfl (Dtu.nilck (lk rfl)) rfl ?_
  refine Ops.gu rfl rfl rfl (Dtu.fld fa158_0 (lk rfl)) rfl ?_
  refine Ops.gu rfl rfl rfl (Dtu.fld fa82_2 (lk rfl)) rfl ?_
  refine Ops.gd rfl rfl rfl (Det.ld Try.isAgg3 (lk rfl) (Rd.ow 0 rfl rfl)) rfl ?_
  refine Ops.gs rfl rfl rfl (Stp.call rfl Try.call62 (lks rfl) (fun E' le hat => schunks_ok E' _) ?_) rfl
  rintro _ _ ⟨rfl, rfl⟩
  refine Ops.gu rfl rfl rfl (Dtu.geq (lk rfl) (lk rfl)) rfl ?_
  refine Ops.u (Dtu.pickF (lk rfl) (lk rfl)) rfl ?_
  refine Ops.u (Dtu.mv (lk rfl)) rfl ?_
  refine Ops.decP 34 rfl (fun hy => absurd hy (by first | omega | assumption | decide)) (fun _ => ?_)
  refine Ops.gu rfl rfl rfl (Dtu.mv (lk rfl)) rfl ?_
  refine Ops.gu rfl rfl rfl (Dtu.lenS Try.underlying73 (Sl.up hs) (lk rfl)) rfl ?_
  refine Ops.gu rfl rfl rfl (Dtu.mv (lk rfl)) rfl ?_
  refine Ops.gu rfl rfl rfl (Dtu.nilck (lk rfl)) rfl ?_
  refine Ops.gu rfl rfl rfl (Dtu.fld fa158_0 (lk rfl)) rfl ?_
  refine Ops.gu rfl rfl rfl (Dtu.fld fa82_2 (lk rfl)) rfl ?_
  refine Ops.gd rfl rfl rfl (Det.ld Try.isAgg3 (lk rfl) (Rd.ow 0 rfl rfl)) rfl ?_
  refine Ops.gu rfl rfl rfl (Dtu.mv (lk rfl)) rfl ?_
  refine Ops.gs rfl rfl rfl (Stp.call rfl Try.call63 (lks rfl) (fun E' le hat => slength_ok E' _ _) ?_) rfl
  rintro _ _ ⟨rfl, rfl⟩
  refine Ops.gu rfl rfl rfl (Dtu.neq (lk rfl) (lk rfl)) rfl ?_
  refine Ops.u (Dtu.pickF (lk rfl) (lk rfl)) rfl ?_
  refine Ops.u (Dtu.asg (lk rfl)) rfl ?_
  refine Ops.nil ?_
  refine Then.next ?_
  refine Body.condP (lk rfl) (fun hy => absurd hy (by first | omega | assumption | decide)) (fun _ => ?_)
  refine Body.skip ?_
  refine Blk.norm ?_
  refine Then.next ?_
  refine Body.seq ?_
  refine Body.draw mixed ?_
  refine AB.u 0 rfl (by decide +kernel) (Dtu.mv (lk rfl)) rfl ?_
  refine AB.u 1 rfl (by decide +kernel) (Dtu.nilck (lk rfl)) rfl ?_
  refine AB.u 2 rfl (by decide +kernel) (Dtu.fld fa158_1 (lk rfl)) rfl ?_
  refine AB.d 3 rfl (by decide +kernel) rfl (Det.ld Try.isAgg156 (lk rfl) (Rd.ow 0 rfl rfl)) rfl ?_
  refine AB.u 4 rfl (by decide +kernel) (Dtu.mv (lk rfl)) rfl ?_
  refine AB.u 5 rfl (by decide +kernel) (Dtu.mv (lk rfl)) rfl ?_
  refine AB.u 7 rfl (by decide +kernel) (Dtu.mv (lk rfl)) rfl ?_
  refine AB.s 6 rfl (by decide +kernel) (by decide +kernel) (Stp.call rfl Try.call90 (lks rfl) (fun E' le hat => cloneB2_ok E' _ _ _ (by first | exact Sl.mono (by assumption) le | exact Sl.hatI hat 0 rfl | exact Sl.hatI hat 1 rfl | exact Sl.hatI hat 2 rfl | exact Sl.hatI hat 3 rfl | exact Sl.hatI hat 4 rfl | exact Sl.hatI hat 5 rfl | exact Sl.hatI hat 6 rfl | exact Sl.hatI hat 7 rfl | exact Sl.hatI hat 8 rfl | exact Sl.hatI hat 9 rfl | exact Sl.hatI hat 10 rfl | exact Sl.hatI hat 11 rfl | exact Sl.hatI hat 12 rfl | exact Sl.hatI hat 13 rfl | exact Sl.hatI hat 14 rfl | exact Sl.hatI hat 15 rfl | exact Sl.hatW hat 0 rfl | exact Sl.hatW hat 1 rfl | exact Sl.hatW hat 2 rfl | exact Sl.hatW hat 3 rfl | exact Sl.hatW hat 4 rfl | exact Sl.hatW hat 5 rfl | exact Sl.hatW hat 6 rfl | exact Sl.hatW hat 7 rfl | exact Sl.hatW hat 8 rfl | exact Sl.hatW hat 9 rfl) (u8s_one _) (by omega)) ?_) rfl
  rintro _ _ ⟨ca52, cc52, rfl, rfl⟩
  refine AB.s 8 rfl (by decide +kernel) (by decide +kernel) (Stp.call rfl Try.call106 (lks rfl) (fun E' le hat => crc_ok E' _ _ (by first | exact Sl.mono (by assumption) le | exact Sl.hatI hat 0 rfl | exact Sl.hatI hat 1 rfl | exact Sl.hatI hat 2 rfl | exact Sl.hatI hat 3 rfl | exact Sl.hatI hat 4 rfl | exact Sl.hatI hat 5 rfl | exact Sl.hatI hat 6 rfl | exact Sl.hatI hat 7 rfl | exact Sl.hatI hat 8 rfl | exact Sl.hatI hat 9 rfl | exact Sl.hatI hat 10 rfl | exact Sl.hatI hat 11 rfl | exact Sl.hatI hat 12 rfl | exact Sl.hatI hat 13 rfl | exact Sl.hatI hat 14 rfl | exact Sl.hatI hat 15 rfl | exact Sl.hatW hat 0 rfl | exact Sl.hatW hat 1 rfl | exact Sl.hatW hat 2 rfl | exact Sl.hatW hat 3 rfl | exact Sl.hatW hat 4 rfl | exact Sl.hatW hat 5 rfl | exact Sl.hatW hat 6 rfl | exact Sl.hatW hat 7 rfl | exact Sl.hatW hat 8 rfl | exact Sl.hatW hat 9 rfl) (by assumption)) ?_) rfl
  rintro _ _ ⟨rfl, rfl⟩
  refine AB.u 9 rfl (by decide +kernel) (Dtu.build ty166 pl166 (lkp rfl) rfl rfl) rfl ?_
  refine AB.e 10 rfl (by decide +kernel) (by decide +kernel) (Stp.mput 2 Try.underlying156 Try.underlying3 rfl (lk rfl) (lk rfl) (lk rfl) rfl ?_)
  refine AB.done (by decide +kernel) ?_
  refine Then.next ?_
  refine Body.seq ?_
  refine Body.region ?_
  refine Ops.u (Dtu.asg (lk rfl)) rfl ?_
  refine Ops.nil ?_
  refine Then.next ?_
  refine Body.ret ?_
  (exact ⟨.inr rfl, _, fun w s => shut (F.puts ⟨i, d, crOf (d.map Int.toNat)⟩) (hput cs ⟨⟨i, d, crOf (d.map Int.toNat)⟩, (Value.slice ca52 d.length cc52)⟩) w [] hid (by rw [hput_k, f1]; rfl) (Fi.puts_ok ok hw hl hb) (hput_all (c := ⟨⟨i, d, crOf (d.map Int.toNat)⟩, (Value.slice ca52 d.length cc52)⟩) s), rfl, rfl⟩)
end Go.Proofs.Ytpmapedhigjalaa
end
section
/- store: Damage. -/
namespace Go.Proofs.Ytpmapedhigjalaa
set_option maxRecDepth 100000
set_option maxHeartbeats 4000000
set_option linter.unusedVariables false
set_option linter.unusedSimpArgs false
open Go.Sx
theorem chm_put {l : List Ch} {i : Int} {k : Kc} (h : cget (l.map Ch.k) i = some k) : ∃ A c C, l = A ++ c :: C ∧ c.k = k ∧ c.k.i = i ∧ mget (chm l) i = some c.val ∧ ∀ k' : Kc, k'.i = i → k'.s = k.s → (A ++ (⟨k', c.v⟩ : Ch) :: C).map Ch.k = cput (l.map Ch.k) k' ∧ chm (A ++ (⟨k', c.v⟩ : Ch) :: C) = chm l := by
  induction l with
  | nil => cases h
  | cons x l ih =>
    simp only [List.map_cons, cget] at h
    split at h
    · rename_i hn
      refine ⟨[], x, l, rfl, Option.some.inj h, hn.symm, by simp only [chm, List.map_cons, mget]; rw [if_pos hn], fun k' h1 h2 => ⟨?_, ?_⟩⟩
      · simp only [List.nil_append, List.map_cons, cput]; rw [if_pos (by rw [h1, hn])]
      · simp only [List.nil_append, chm, List.map_cons, Ch.val]; rw [h1, h2, hn, ← Option.some.inj h]
    · rename_i hn
      obtain ⟨A, c, C, rfl, h1, h2, h3, h4⟩ := ih h
      refine ⟨x :: A, c, C, rfl, h1, h2, by simp only [chm, List.map_cons, mget]; rw [if_neg hn]; exact h3, fun k' e1 e2 => ⟨?_, ?_⟩⟩
      · simp only [List.cons_append, List.map_cons, cput]; rw [if_neg (by rw [e1]; exact hn)]; exact congrArg _ (h4 k' e1 e2).1
      · simp only [List.cons_append, chm, List.map_cons]; exact congrArg _ (h4 k' e1 e2).2
theorem damage_y (E : Env) (b : Nat) (fs : List Fi) (id i at' y' : Int) (F : Fi) (k : Kc) (hn : sget fs id = some F) (hw : cget F.cs i = some k) (hk : 0 ≤ at' ∧ at' < k.d.length) : Does Try.prog 70 #[.pointer (some ⟨b, 0, none⟩), .int .u64 id, .int .i64 i, .int .i64 at', .int .u8 y'] E ([stoP b fs]) fun r H' => r = .int .i64 0 ∧ H' = [stoP b (sput fs (F.puts ⟨i, k.d.set at'.toNat (ibit .xor .u8 k.d[at'.toNat]! y'), k.s⟩))] := by
  refine Does.stoY hn fun z fb y cs rest es f1 ok hid hm shut => ?_
  have hkm := cget_mem hw
  rw [← f1] at hw
  obtain ⟨A2, c, C2, rfl, k1, k2, hcm, k4⟩ := chm_put hw
  have hko := ok.cs k hkm.1
  rw [hkm.2] at hko
  obtain ⟨⟨ci, d, s0⟩, v⟩ := c
  subst k1
  dsimp only at k2 hk hko k4 ⊢
  subst k2
  rw [Ch.val] at hcm
  dsimp only at hcm
  obtain ⟨a, rfl⟩ := Int.eq_ofNat_of_zero_le hk.1
  have hk2 := hk.2
  rw [Int.toNat_natCast]
  refine Does.pre (fun w s => ⟨osl 5 1 v d.length (d.map (.int .u8)) :: own fb (.int .u64 F.id :: .string F.nm :: .int .i64 F.sz :: .int .u8 (F.sm 0) :: .int .u8 (F.sm 1) :: .int .u8 (F.sm 2) :: .int .u8 (F.sm 3) :: .int .u8 (F.sm 4) :: .int .u8 (F.sm 5) :: .int .u8 (F.sm 6) :: .int .u8 (F.sm 7) :: .int .u8 (F.sm 8) :: .int .u8 (F.sm 9) :: .int .u8 (F.sm 10) :: .int .u8 (F.sm 11) :: .int .u8 (F.sm 12) :: .int .u8 (F.sm 13) :: .int .u8 (F.sm 14) :: .int .u8 (F.sm 15) :: .int .u8 (F.sm 16) :: .int .u8 (F.sm 17) :: .int .u8 (F.sm 18) :: .int .u8 (F.sm 19) :: .int .u8 (F.sm 20) :: .int .u8 (F.sm 21) :: .int .u8 (F.sm 22) :: .int .u8 (F.sm 23) :: .int .u8 (F.sm 24) :: .int .u8 (F.sm 25) :: .int .u8 (F.sm 26) :: .int .u8 (F.sm 27) :: .int .u8 (F.sm 28) :: .int .u8 (F.sm 29) :: .int .u8 (F.sm 30) :: .int .u8 (F.sm 31) :: .map (some y) :: []) 158 :: omp .i64 y (chm (A2 ++ (⟨⟨ci, d, s0⟩, v⟩ : Ch) :: C2)) :: many (A2.map Ch.own ++ C2.map Ch.own) :: own b [.map (some z)] 154 :: omp .u64 z (fpm es) :: many rest :: [], ?_, ?_⟩)
  · have s1 := s.perm (List.perm_append_comm (l₁ := [_, _]) (l₂ := [_]) |>.append_right [_, _, _])
    rw [List.map_append, List.map_cons] at s1
    exact (poolTake s1).perm (List.Perm.cons _ (List.perm_append_comm (l₁ := [_]) (l₂ := [_, _]) |>.append_right [_, _, _]))
  refine Does.pure (Sl.shape (Sl.osl 0 rfl)) fun ⟨va, vc, hv⟩ => ?_
  subst hv
  have hx : 0 ≤ ibit .xor .u8 d[a]! y' ∧ ibit .xor .u8 d[a]! y' < 256 := u8_rng _
  have hd' : Byt (d.set a (ibit .xor .u8 d[a]! y')) := Byt.iff.2 fun x hx2 => by
    rcases List.mem_or_eq_of_mem_set hx2 with h | h
    · exact Byt.iff.1 hko.2.2.2 x h
    · subst h; exact hx
  have hS : ∀ w, St E (osl 5 1 (.slice va d.length vc) d.length ((d.set a (ibit .xor .u8 d[a]! y')).map (.int .u8)) :: own fb (.int .u64 F.id :: .string F.nm :: .int .i64 F.sz :: .int .u8 (F.sm 0) :: .int .u8 (F.sm 1) :: .int .u8 (F.sm 2) :: .int .u8 (F.sm 3) :: .int .u8 (F.sm 4) :: .int .u8 (F.sm 5) :: .int .u8 (F.sm 6) :: .int .u8 (F.sm 7) :: .int .u8 (F.sm 8) :: .int .u8 (F.sm 9) :: .int .u8 (F.sm 10) :: .int .u8 (F.sm 11) :: .int .u8 (F.sm 12) :: .int .u8 (F.sm 13) :: .int .u8 (F.sm 14) :: .int .u8 (F.sm 15) :: .int .u8 (F.sm 16) :: .int .u8 (F.sm 17) :: .int .u8 (F.sm 18) :: .int .u8 (F.sm 19) :: .int .u8 (F.sm 20) :: .int .u8 (F.sm 21) :: .int .u8 (F.sm 22) :: .int .u8 (F.sm 23) :: .int .u8 (F.sm 24) :: .int .u8 (F.sm 25) :: .int .u8 (F.sm 26) :: .int .u8 (F.sm 27) :: .int .u8 (F.sm 28) :: .int .u8 (F.sm 29) :: .int .u8 (F.sm 30) :: .int .u8 (F.sm 31) :: .map (some y) :: []) 158 :: omp .i64 y (chm (A2 ++ (⟨⟨ci, d, s0⟩, .slice va d.length vc⟩ : Ch) :: C2)) :: many (A2.map Ch.own ++ C2.map Ch.own) :: own b [.map (some z)] 154 :: omp .u64 z (fpm es) :: many rest :: []) w → St E [stoP b (sput fs (F.puts ⟨ci, d.set a (ibit .xor .u8 d[a]! y'), s0⟩))] w := fun w s => by
    obtain ⟨e1, e2⟩ := k4 ⟨ci, d.set a (ibit .xor .u8 d[a]! y'), s0⟩ rfl rfl
    refine shut (F.puts ⟨ci, d.set a (ibit .xor .u8 d[a]! y'), s0⟩) (A2 ++ ⟨⟨ci, d.set a (ibit .xor .u8 d[a]! y'), s0⟩, .slice va d.length vc⟩ :: C2) w [] hid (by rw [e1, f1]; rfl) (Fi.puts_ok ok ⟨hko.1, hko.2.1⟩ (by dsimp only; rw [List.length_set]; exact hko.2.2.1) hd') ?_
    rw [← e2] at s
    have eo : osl 5 1 (.slice va d.length vc) d.length ((d.set a (ibit .xor .u8 d[a]! y')).map (.int .u8)) = Ch.own ⟨⟨ci, d.set a (ibit .xor .u8 d[a]! y'), s0⟩, .slice va d.length vc⟩ := by
      rw [Ch.own]; dsimp only; rw [List.length_set]
    rw [eo] at s
    have s1 := s.perm (List.Perm.cons _ (List.perm_append_comm (l₁ := [_, _]) (l₂ := [_]) |>.append_right [_, _, _]))
    have s2 := poolPut s1
    rw [← List.map_cons (f := Ch.own), ← List.map_append] at s2
    exact s2.perm (List.perm_append_comm (l₁ := [_]) (l₂ := [_, _]) |>.append_right [_, _, _])
  refine Does.go _ _ Try.func70 rfl Try.ntmps70 rfl rfl ?_
  skip
  refine Body.seq ?_
  refine Body.region ?_
  refine Ops.u (Dtu.asg (lk rfl)) rfl ?_
  refine Ops.nil ?_
  refine Then.next ?_
  refine Body.seq ?_
  refine Body.region ?_
  refine Ops.u (Dtu.mv (lk rfl)) rfl ?_
  refine Ops.u (Dtu.mv (lk rfl)) rfl ?_
  refine Ops.s (Stp.call rfl Try.call105 (lks rfl) (fun E' le hat => find_y E' _ _ _ _ _ (by first | exact At.mono (by assumption) le | exact hat _ (.head _) | exact hat _ (.tail _ (.head _)) | exact hat _ (.tail _ (.tail _ (.head _))) | exact hat _ (.tail _ (.tail _ (.tail _ (.head _)))) | exact hat _ (.tail _ (.tail _ (.tail _ (.tail _ (.head _))))) | exact hat _ (.tail _ (.tail _ (.tail _ (.tail _ (.tail _ (.head _)))))) | exact hat _ (.tail _ (.tail _ (.tail _ (.tail _ (.tail _ (.tail _ (.head _))))))) | exact hat _ (.tail _ (.tail _ (.tail _ (.tail _ (.tail _ (.tail _ (.tail _ (.head _)))))))) | exact hat _ (.tail _ (.tail _ (.tail _ (.tail _ (.tail _ (.tail _ (.tail _ (.tail _ (.head _))))))))) | exact hat _ (.tail _ (.tail _ (.tail _ (.tail _ (.tail _ (.tail _ (.tail _ (.tail _ (.tail _ (.head _))))))))))) (by first | exact Mp.mono (by assumption) le | exact Mp.at ((by first | exact At.mono (by assumption) le | exact hat _ (.head _) | exact hat _ (.tail _ (.head _)) | exact hat _ (.tail _ (.tail _ (.head _))) | exact hat _ (.tail _ (.tail _ (.tail _ (.head _)))) | exact hat _ (.tail _ (.tail _ (.tail _ (.tail _ (.head _))))) | exact hat _ (.tail _ (.tail _ (.tail _ (.tail _ (.tail _ (.head _)))))) | exact hat _ (.tail _ (.tail _ (.tail _ (.tail _ (.tail _ (.tail _ (.head _))))))) | exact hat _ (.tail _ (.tail _ (.tail _ (.tail _ (.tail _ (.tail _ (.tail _ (.head _)))))))) | exact hat _ (.tail _ (.tail _ (.tail _ (.tail _ (.tail _ (.tail _ (.tail _ (.tail _ (.head _))))))))) | exact hat _ (.tail _ (.tail _ (.tail _ (.tail _ (.tail _ (.tail _ (.tail _ (.tail _ (.tail _ (.head _))))))))))))) (by assumption)) ?_) rfl
  rintro _ _ ⟨rfl, rfl⟩
  refine Ops.u (Dtu.mv (lk rfl)) rfl ?_
  refine Ops.u (Dtu.ext (lk rfl) rfl) rfl ?_
  refine Ops.u (Dtu.ext (lk rfl) rfl) rfl ?_
  refine Ops.u (Dtu.asg (lk rfl)) rfl ?_
  refine Ops.u (Dtu.asg (lk rfl)) rfl ?_
  refine Ops.nil ?_
  refine Then.next ?_
  refine Body.seq ?_
  refine Body.seq ?_
  refine Body.region ?_
  refine Ops.u (Dtu.mv (lk rfl)) rfl ?_
  refine Ops.u (Dtu.neq (lk rfl) (lk rfl)) rfl ?_
  refine Ops.nil ?_
  refine Then.next ?_
  refine Body.condP (lk rfl) (fun hy => absurd hy (by first | omega | assumption | decide)) (fun _ => ?_)
  refine Body.skip ?_
  refine Then.next ?_
  refine Body.seq ?_
  refine Body.region ?_
  refine Ops.u (Dtu.mv (lk rfl)) rfl ?_
  refine Ops.u (Dtu.nilck (lk rfl)) rfl ?_
  refine Ops.u (Dtu.fld fa158_1 (lk rfl)) rfl ?_
  refine Ops.d (Det.ld Try.isAgg156 (lk rfl) (Rd.ow 1 rfl rfl)) rfl ?_
  refine Ops.u (Dtu.mv (lk rfl)) rfl ?_
  refine Ops.d (Det.look2Y Try.underlying156 Try.underlying3 (Mp.ow 2 rfl) (lk rfl) (lk rfl) (by with_reducible assumption)) rfl ?_
  refine Ops.u (Dtu.mv (lk rfl)) rfl ?_
  refine Ops.u (Dtu.ext (lk rfl) rfl) rfl ?_
  refine Ops.u (Dtu.ext (lk rfl) rfl) rfl ?_
  refine Ops.s (Stp.alloc ty166 (fun b13 => ?_)) rfl
  refine Ops.e (Stp.store 0 Try.sizeOf166 (lk rfl) (lk rfl) rfl rfl rfl rfl rfl rfl rfl ?_)
  refine Ops.u (Dtu.asg (lk rfl)) rfl ?_
  refine Ops.nil ?_
  refine Then.next ?_
  refine Body.seq ?_
  refine Body.seq ?_
  refine Body.region ?_
  refine Ops.u (Dtu.mv (lk rfl)) rfl ?_
  refine Ops.u (Dtu.not (lk rfl)) rfl ?_
  refine Ops.u (Dtu.mv (lk rfl)) rfl ?_
  refine Ops.gu rfl rfl rfl (Dtu.mv (lk rfl)) rfl ?_
  refine Ops.gu rfl rfl rfl (Dtu.lss (lk rfl) (lk rfl)) rfl ?_
  refine Ops.u (Dtu.pickF (lk rfl) (lk rfl)) rfl ?_
  refine Ops.u (Dtu.mv (lk rfl)) rfl ?_
  refine Ops.decP 39 rfl (fun hy => absurd hy (by first | omega | assumption | decide)) (fun _ => ?_)
  refine Ops.gu rfl rfl rfl (Dtu.mv (lk rfl)) rfl ?_
  refine Ops.gu rfl rfl rfl (Dtu.fld fa166_0 (lk rfl)) rfl ?_
  refine Ops.gd rfl rfl rfl (Det.ld Try.isAgg73 (lk rfl) (Rd.ow 0 rfl rfl)) rfl ?_
  refine Ops.gu rfl rfl rfl (Dtu.lenS Try.underlying73 (Sl.osl 1 rfl) (lk rfl)) rfl ?_
  refine Ops.gu rfl rfl rfl (Dtu.geq (lk rfl) (lk rfl)) rfl ?_
  refine Ops.u (Dtu.pickF (lk rfl) (lk rfl)) rfl ?_
  refine Ops.nil ?_
  refine Then.next ?_
  refine Body.condP (lk rfl) (fun hy => absurd hy (by first | omega | assumption | decide)) (fun _ => ?_)
  refine Body.skip ?_
  refine Then.next ?_
  refine Body.seq ?_
  refine Body.region ?_
  refine Ops.u (Dtu.fld fa166_0 (lk rfl)) rfl ?_
  refine Ops.d (Det.ld Try.isAgg73 (lk rfl) (Rd.ow 0 rfl rfl)) rfl ?_
  refine Ops.u (Dtu.mv (lk rfl)) rfl ?_
  refine Ops.u (Dtu.ix (i := (a)) Try.underlying73 Try.sizeOf5 (Sl.osl 1 rfl) (lk rfl) (lk rfl) (by omega) (by omega)) rfl ?_
  refine Ops.d (Det.ld Try.isAgg5 (lk rfl) (Rd.sl (Sl.osl 1 rfl) (gm (by omega)))) rfl ?_
  refine Ops.u (Dtu.mv (lk rfl)) rfl ?_
  refine Ops.u (Dtu.bit rfl (lk rfl) (lk rfl) rfl) rfl ?_
  refine Ops.u (Dtu.ix (i := (a)) Try.underlying73 Try.sizeOf5 (Sl.osl 1 rfl) (lk rfl) (lk rfl) (by omega) (by omega)) rfl ?_
  refine Ops.e (Stp.storeM 1 Try.sizeOf5 rfl (lk rfl) (lk rfl) (fun _ => rfl) rfl (by omega) rfl ?_)
  refine Ops.nil ?_
  refine Then.next ?_
  refine Body.seq ?_
  refine Body.region ?_
  refine Ops.u (Dtu.asg (lk rfl)) rfl ?_
  refine Ops.nil ?_
  refine Then.next ?_
  refine Body.ret ?_
  (exact ⟨.inr rfl, _, fun w s => hS w (pk [1, 1, 1, 1, 1, 1, 1] rfl w s), rfl, rfl⟩)
end Go.Proofs.Ytpmapedhigjalaa
end
section
/- store: Whole. -/
namespace Go.Proofs.Ytpmapedhigjalaa
set_option maxRecDepth 100000
set_option maxHeartbeats 4000000
set_option linter.unusedVariables false
set_option linter.unusedSimpArgs false
open Go.Sx
/-- the bytes of a chunk that is there -/
def Fi.dat (F : Fi) (i : Int) : List Int := match cget F.cs i with
  | some c => c.d
  | none => []
def Fi.pre (F : Fi) (k : Nat) : List Int := (List.range k).flatMap fun i => F.dat (i : Nat)
def Fi.allGood (F : Fi) : Bool := (List.range F.n).all fun i => F.good (i : Nat)
theorem Fi.pre_succ (F : Fi) (k : Nat) : F.pre (k + 1) = F.pre k ++ F.dat (k : Nat) := by simp [Fi.pre, List.range_succ]
theorem Fi.dat_ok {F : Fi} (ok : F.Ok) (i : Int) : (F.dat i).length ≤ 64 ∧ Byt (F.dat i) := by
  unfold Fi.dat
  cases hc : cget F.cs i with
  | none => exact ⟨by simp, Byt.iff.2 (by simp)⟩
  | some c =>
    have := ok.cs c (cget_mem hc).1
    refine ⟨?_, this.2.2.2⟩
    have h := this.2.2.1
    dsimp only
    unfold lenZ at h
    split at h <;> omega
theorem Fi.pre_ok {F : Fi} (ok : F.Ok) (k : Nat) : (F.pre k).length ≤ 64 * k ∧ Byt (F.pre k) := by
  induction k with
  | zero => exact ⟨by simp [Fi.pre], Byt.iff.2 (by simp [Fi.pre])⟩
  | succ k ih =>
    obtain ⟨h1, h2⟩ := Fi.dat_ok ok (k : Nat)
    rw [F.pre_succ]
    exact ⟨by rw [List.length_append]; omega, Byt.iff.2 fun x hx => by
      rcases List.mem_append.1 hx with h | h
      · exact Byt.iff.1 ih.2 x h
      · exact Byt.iff.1 h2 x h⟩
def Fi.whole (F : Fi) : List Int × Int := if F.allGood then (if eqS (shaS (F.pre F.n)) F.sm then (F.pre F.n, 0) else ([], 40)) else ([], 10)
theorem good_y {E : Env} {F : Fi} {cs : List Ch} {y : Nat} {i : Int} (f1 : cs.map Ch.k = F.cs) (f5 : At (many (cs.map Ch.own)) E) (h : F.good i = true) : ∃ v s, mget (chm cs) i = some (.agg #[v, .int .u32 ((s : Nat) : Int)]) ∧ Sl E [] 1 v (F.dat i).length ((F.dat i).map (.int .u8)) := by
  unfold Fi.good at h
  cases hc : cget F.cs i with
  | none => rw [hc] at h; cases h
  | some k =>
    have hd : F.dat i = k.d := by unfold Fi.dat; rw [hc]
    rw [hd]
    rw [← f1] at hc
    obtain ⟨A, c, C, rfl, h3, h4, h5⟩ := chm_some hc
    subst h3
    exact ⟨c.v, c.k.s, h5, poolSl (t := 5) f5 (List.mem_map_of_mem (f := Ch.own) (by simp))⟩
theorem whole_y (E : Env) (b : Nat) (fs : List Fi) (id : Int) (F : Fi) (hA : At (stoP b fs) E) (hn : sget fs id = some F) : Does Try.prog 69 #[.pointer (some ⟨b, 0, none⟩), .int .u64 id] E ([]) fun r H' => ∃ a c, r = .tuple #[.slice a F.whole.1.length c, .int .i64 F.whole.2] ∧ H' = [osl 5 1 (.slice a F.whole.1.length c) F.whole.1.length (F.whole.1.map (.int .u8))] := by
  obtain ⟨z, es, rfl, a1, a2, a3⟩ := stoAt hA
  obtain ⟨A, e, C, rfl, h1, h2, hm, h4, h5, h6⟩ := fpm_some hn
  obtain ⟨F, b9⟩ := e
  dsimp only at h1
  subst h1
  have a4 : At (filP b9 F) E := a3 ⟨F, b9⟩ (by simp)
  obtain ⟨y, cs, f1, ok, f3, f4, f5⟩ := filAt a4
  rw [Fp.ptr] at hm
  dsimp only at hm
  have hN := F.n_eq
  have hl := F.n_le
  clear hA h4 h5 h6
  refine Does.go _ _ Try.func69 rfl Try.ntmps69 rfl rfl ?_
  skip
  refine Body.seq ?_
  refine Body.region ?_
  refine Ops.u (Dtu.asg (lk rfl)) rfl ?_
  refine Ops.u (Dtu.asg (lk rfl)) rfl ?_
  refine Ops.nil ?_
  refine Then.next ?_
  refine Body.seq ?_
  refine Body.region ?_
  refine Ops.u (Dtu.mv (lk rfl)) rfl ?_
  refine Ops.u (Dtu.mv (lk rfl)) rfl ?_
  refine Ops.s (Stp.call rfl Try.call105 (lks rfl) (fun E' le hat => find_y E' _ _ _ _ _ (by first | exact At.mono (by assumption) le | exact hat _ (.head _) | exact hat _ (.tail _ (.head _)) | exact hat _ (.tail _ (.tail _ (.head _))) | exact hat _ (.tail _ (.tail _ (.tail _ (.head _)))) | exact hat _ (.tail _ (.tail _ (.tail _ (.tail _ (.head _))))) | exact hat _ (.tail _ (.tail _ (.tail _ (.tail _ (.tail _ (.head _)))))) | exact hat _ (.tail _ (.tail _ (.tail _ (.tail _ (.tail _ (.tail _ (.head _))))))) | exact hat _ (.tail _ (.tail _ (.tail _ (.tail _ (.tail _ (.tail _ (.tail _ (.head _)))))))) | exact hat _ (.tail _ (.tail _ (.tail _ (.tail _ (.tail _ (.tail _ (.tail _ (.tail _ (.head _))))))))) | exact hat _ (.tail _ (.tail _ (.tail _ (.tail _ (.tail _ (.tail _ (.tail _ (.tail _ (.tail _ (.head _))))))))))) (by first | exact Mp.mono (by assumption) le | exact Mp.at ((by first | exact At.mono (by assumption) le | exact hat _ (.head _) | exact hat _ (.tail _ (.head _)) | exact hat _ (.tail _ (.tail _ (.head _))) | exact hat _ (.tail _ (.tail _ (.tail _ (.head _)))) | exact hat _ (.tail _ (.tail _ (.tail _ (.tail _ (.head _))))) | exact hat _ (.tail _ (.tail _ (.tail _ (.tail _ (.tail _ (.head _)))))) | exact hat _ (.tail _ (.tail _ (.tail _ (.tail _ (.tail _ (.tail _ (.head _))))))) | exact hat _ (.tail _ (.tail _ (.tail _ (.tail _ (.tail _ (.tail _ (.tail _ (.head _)))))))) | exact hat _ (.tail _ (.tail _ (.tail _ (.tail _ (.tail _ (.tail _ (.tail _ (.tail _ (.head _))))))))) | exact hat _ (.tail _ (.tail _ (.tail _ (.tail _ (.tail _ (.tail _ (.tail _ (.tail _ (.tail _ (.head _))))))))))))) (by assumption)) ?_) rfl
  rintro _ _ ⟨rfl, rfl⟩
  refine Ops.u (Dtu.mv (lk rfl)) rfl ?_
  refine Ops.u (Dtu.ext (lk rfl) rfl) rfl ?_
  refine Ops.u (Dtu.ext (lk rfl) rfl) rfl ?_
  refine Ops.u (Dtu.asg (lk rfl)) rfl ?_
  refine Ops.u (Dtu.asg (lk rfl)) rfl ?_
  refine Ops.nil ?_
  refine Then.next ?_
  refine Body.seq ?_
  refine Body.seq ?_
  refine Body.region ?_
  refine Ops.u (Dtu.mv (lk rfl)) rfl ?_
  refine Ops.u (Dtu.neq (lk rfl) (lk rfl)) rfl ?_
  refine Ops.nil ?_
  refine Then.next ?_
  refine Body.condP (lk rfl) (fun hy => absurd hy (by first | omega | assumption | decide)) (fun _ => ?_)
  refine Body.skip ?_
  refine Then.next ?_
  refine Body.seq ?_
  refine Body.region ?_
  refine Ops.u (Dtu.asg (lk rfl)) rfl ?_
  refine Ops.nil ?_
  refine Then.next ?_
  refine Body.seq ?_
  refine Body.seq ?_
  refine Body.region ?_
  refine Ops.u (Dtu.mv (lk rfl)) rfl ?_
  refine Ops.u (Dtu.nilck (lk rfl)) rfl ?_
  refine Ops.u (Dtu.fld fa158_0 (lk rfl)) rfl ?_
  refine Ops.u (Dtu.fld fa82_2 (lk rfl)) rfl ?_
  refine Ops.d (Det.ld Try.isAgg3 (lk rfl) (Rd.env (own_at f3 rfl))) rfl ?_
  refine Ops.s (Stp.call rfl Try.call62 (lks rfl) (fun E' le hat => schunks_ok E' _) ?_) rfl
  rintro _ _ ⟨rfl, rfl⟩
  refine Ops.u (Dtu.mv (lk rfl)) rfl ?_
  refine Ops.nil ?_
  refine Then.next ?_
  refine Body.block ?_
  refine Body.addNil 5 1 none ?_
  refine Body.loopL (γ := Nat × Value) [0, 1, 4, 5, 6, 7, 24] rfl (fun g => [(25, .int .i64 (g.1 : Nat)), (8, g.2)]) (fun g => [(0, osl 5 1 g.2 (F.pre g.1).length ((F.pre g.1).map (.int .u8)))]) (fun _ => rfl) (fun _ _ => rfl) (fun g => g.1 ≤ F.n ∧ ∀ i, i < g.1 → F.good (i : Nat) = true) (fun g => F.n - g.1) ((0, .slice none 0 0)) (⟨Nat.zero_le _, fun i hi => absurd hi (Nat.not_lt_zero _)⟩) ⟨rfl, rfl, trivial⟩ rfl ?_
  rintro ⟨k, v⟩ u ⟨hk, hall⟩
  dsimp only at hk hall ⊢
  obtain ⟨p1, p2⟩ := Fi.pre_ok ok k
  by_cases hlt : k < F.n
  · cases hg : F.good (k : Nat) with
    | true =>
      obtain ⟨cv, sm0, hcm, hcs⟩ := good_y (y := y) f1 f5 hg
      obtain ⟨q1, q2⟩ := Fi.dat_ok ok (k : Nat)
      refine Body.pure (Sl.shape hcs.up) fun ⟨va, vc, hv⟩ => ?_
      subst hv
      have hall2 : ∀ i, i < k + 1 → F.good (i : Nat) = true := fun i hi => by
        by_cases h : i = k
        · rw [h]; exact hg
        · exact hall i (by omega)
      refine Body.seq ?_
      refine Body.region ?_
      refine Ops.u (Dtu.lss (lk rfl) (lk rfl)) rfl ?_
      refine Ops.nil ?_
      refine Then.next ?_
      refine Body.seq ?_
      refine Body.condP (lk rfl) (fun _ => ?_) (fun hn => absurd (by first | omega | assumption | decide) hn)
      refine Body.skip ?_
      refine Then.next ?_
      refine Body.seq ?_
      refine Body.block ?_
      refine Body.seq ?_
      refine Body.region ?_
      refine Ops.u (Dtu.mv (lk rfl)) rfl ?_
      refine Ops.u (Dtu.asg (lk rfl)) rfl ?_
      refine Ops.nil ?_
      refine Then.next ?_
      refine Body.seq ?_
      refine Body.seq ?_
      refine Body.region ?_
      refine Ops.u (Dtu.mv (lk rfl)) rfl ?_
      refine Ops.u (Dtu.mv (lk rfl)) rfl ?_
      refine Ops.s (Stp.call rfl Try.call107 (lks rfl) (fun E' le hat => sound_r E' _ _ _ (by first | exact At.mono (by assumption) le | exact hat _ (.head _) | exact hat _ (.tail _ (.head _)) | exact hat _ (.tail _ (.tail _ (.head _))) | exact hat _ (.tail _ (.tail _ (.tail _ (.head _)))) | exact hat _ (.tail _ (.tail _ (.tail _ (.tail _ (.head _))))) | exact hat _ (.tail _ (.tail _ (.tail _ (.tail _ (.tail _ (.head _)))))) | exact hat _ (.tail _ (.tail _ (.tail _ (.tail _ (.tail _ (.tail _ (.head _))))))) | exact hat _ (.tail _ (.tail _ (.tail _ (.tail _ (.tail _ (.tail _ (.tail _ (.head _)))))))) | exact hat _ (.tail _ (.tail _ (.tail _ (.tail _ (.tail _ (.tail _ (.tail _ (.tail _ (.head _))))))))) | exact hat _ (.tail _ (.tail _ (.tail _ (.tail _ (.tail _ (.tail _ (.tail _ (.tail _ (.tail _ (.head _)))))))))))) ?_) rfl
      rintro _ _ ⟨rfl, rfl⟩
      refine Ops.u (Dtu.not (lk rfl)) rfl ?_
      refine Ops.nil ?_
      refine Then.next ?_
      refine Body.cond (lk rfl) (fun hn => absurd hn (by first | (rw [hg]; decide) | simp [hg])) (fun _ => ?_)
      refine Body.skip ?_
      refine Then.next ?_
      refine Body.region ?_
      refine Ops.u (Dtu.mv (lk rfl)) rfl ?_
      refine Ops.u (Dtu.mv (lk rfl)) rfl ?_
      refine Ops.u (Dtu.nilck (lk rfl)) rfl ?_
      refine Ops.u (Dtu.fld fa158_1 (lk rfl)) rfl ?_
      refine Ops.d (Det.ld Try.isAgg156 (lk rfl) (Rd.env (own_at f3 rfl))) rfl ?_
      refine Ops.u (Dtu.mv (lk rfl)) rfl ?_
      refine Ops.d (Det.lookY Try.underlying156 Try.underlying3 (Mp.up f4) (lk rfl) (lk rfl) (by with_reducible assumption)) rfl ?_
      refine Ops.u (Dtu.fieldv fo166_0 (lk rfl) rfl) rfl ?_
      refine Ops.s (Stp.append 0 Try.underlying73 ty5 rfl rfl (lk rfl) (lk rfl) (Sl.up hcs) (by first | rfl | exact all_map (fun _ => rfl) _ | exact all_flat (fun _ => rfl) _ | exact all_one (by assumption)) (by omega) (by omega) (fun v40 => ?_)) rfl
      refine Ops.u (Dtu.asg (lk rfl)) rfl ?_
      refine Ops.nil ?_
      refine Blk.norm ?_
      refine Then.next ?_
      refine Body.region ?_
      refine Ops.u (Dtu.add (lk rfl) (lk rfl) (w64 (by omega) (by omega))) rfl ?_
      refine Ops.u (Dtu.mv (lk rfl)) rfl ?_
      refine Ops.nil ?_
      refine Round.goL [0] (k + 1, v40) rfl ⟨rfl, rfl, trivial⟩ rfl (by (try dsimp only); rw [F.pre_succ, List.length_append, List.map_append]; try rfl) ⟨hlt, hall2⟩ (by dsimp only; omega)
    | false =>
      have hw : F.whole = ([], 10) := by
        unfold Fi.whole
        rw [if_neg]
        intro h
        have := List.all_eq_true.1 h k (List.mem_range.2 hlt)
        rw [hg] at this
        cases this
      rw [hw]
      refine Body.seq ?_
      refine Body.region ?_
      refine Ops.u (Dtu.lss (lk rfl) (lk rfl)) rfl ?_
      refine Ops.nil ?_
      refine Then.next ?_
      refine Body.seq ?_
      refine Body.condP (lk rfl) (fun _ => ?_) (fun hn => absurd (by first | omega | assumption | decide) hn)
      refine Body.skip ?_
      refine Then.next ?_
      refine Body.seq ?_
      refine Body.block ?_
      refine Body.seq ?_
      refine Body.region ?_
      refine Ops.u (Dtu.mv (lk rfl)) rfl ?_
      refine Ops.u (Dtu.asg (lk rfl)) rfl ?_
      refine Ops.nil ?_
      refine Then.next ?_
      refine Body.seq ?_
      refine Body.seq ?_
      refine Body.region ?_
      refine Ops.u (Dtu.mv (lk rfl)) rfl ?_
      refine Ops.u (Dtu.mv (lk rfl)) rfl ?_
      refine Ops.s (Stp.call rfl Try.call107 (lks rfl) (fun E' le hat => sound_r E' _ _ _ (by first | exact At.mono (by assumption) le | exact hat _ (.head _) | exact hat _ (.tail _ (.head _)) | exact hat _ (.tail _ (.tail _ (.head _))) | exact hat _ (.tail _ (.tail _ (.tail _ (.head _)))) | exact hat _ (.tail _ (.tail _ (.tail _ (.tail _ (.head _))))) | exact hat _ (.tail _ (.tail _ (.tail _ (.tail _ (.tail _ (.head _)))))) | exact hat _ (.tail _ (.tail _ (.tail _ (.tail _ (.tail _ (.tail _ (.head _))))))) | exact hat _ (.tail _ (.tail _ (.tail _ (.tail _ (.tail _ (.tail _ (.tail _ (.head _)))))))) | exact hat _ (.tail _ (.tail _ (.tail _ (.tail _ (.tail _ (.tail _ (.tail _ (.tail _ (.head _))))))))) | exact hat _ (.tail _ (.tail _ (.tail _ (.tail _ (.tail _ (.tail _ (.tail _ (.tail _ (.tail _ (.head _)))))))))))) ?_) rfl
      rintro _ _ ⟨rfl, rfl⟩
      refine Ops.u (Dtu.not (lk rfl)) rfl ?_
      refine Ops.nil ?_
      refine Then.next ?_
      refine Body.cond (lk rfl) (fun _ => ?_) (fun hn => absurd hn (by first | (rw [hg]; decide) | simp [hg]))
      refine Body.seq ?_
      refine Body.region ?_
      refine Ops.u (Dtu.asg (lk rfl)) rfl ?_
      refine Ops.u (Dtu.asg (lk rfl)) rfl ?_
      refine Ops.nil ?_
      refine Then.next ?_
      refine Body.ret ?_
      refine Then.ret ?_
      refine Blk.ret ?_
      refine Then.ret ?_
      refine Round.ret ?_
      refine Blk.ret ?_
      refine Then.ret ?_
      (exact ⟨.inr rfl, _, fun w s => osl_nil (pk [] rfl w s), none, 0, rfl, rfl⟩)
  · obtain rfl : k = F.n := by omega
    have hA : F.allGood = true := List.all_eq_true.2 fun i hi => hall i (List.mem_range.1 hi)
    cases hq : eqS (shaS (F.pre F.n)) F.sm with
    | true =>
      have hw : F.whole = (F.pre F.n, 0) := by unfold Fi.whole; rw [if_pos hA, if_pos hq]
      rw [hw]
      refine Body.seq ?_
      refine Body.region ?_
      refine Ops.u (Dtu.lss (lk rfl) (lk rfl)) rfl ?_
      refine Ops.nil ?_
      refine Then.next ?_
      refine Body.seq ?_
      refine Body.condP (lk rfl) (fun hy => absurd hy (by first | omega | assumption | decide)) (fun _ => ?_)
      refine Body.exit ?_
      refine Then.exit ?_
      refine Round.exit ?_
      refine Blk.here ?_
      refine Then.next ?_
      refine Body.seq ?_
      refine Body.seq ?_
      refine Body.draw mixed ?_
      refine AB.u 0 rfl (by decide +kernel) (Dtu.mv (lk rfl)) rfl ?_
      refine AB.pure (Sl.shape (Sl.osl 0 rfl)) fun hslv => ?_
      obtain ⟨va, vc, rfl⟩ := hslv
      refine AB.u 3 rfl (by decide +kernel) (Dtu.mv (lk rfl)) rfl ?_
      refine AB.u 4 rfl (by decide +kernel) (Dtu.nilck (lk rfl)) rfl ?_
      refine AB.u 5 rfl (by decide +kernel) (Dtu.fld fa158_0 (lk rfl)) rfl ?_
      refine AB.u 6 rfl (by decide +kernel) (Dtu.fld fa82_3 (lk rfl)) rfl ?_
      refine AB.d 7 rfl (by decide +kernel) rfl (Det.lda Try.isAgg80 Try.sizeOf80 (lk rfl) (Rds.at (m := 32) f3 rfl) rfl) rfl ?_
      refine AB.s 1 rfl (by decide +kernel) (by decide +kernel) (Stp.buildSliceO Try.underlying144 ty73 (by decide) (by decide) (lkp rfl) rfl rfl rfl (by decide) (fun v43 => ?_)) rfl
      refine AB.s 2 rfl (by decide +kernel) (by decide +kernel) (Stp.call rfl Try.call56 (lks rfl) (fun E' le hat => sof32_ok E' _ _ _ (by first | exact Sl.mono (by assumption) le | exact Sl.hatI hat 0 rfl | exact Sl.hatI hat 1 rfl | exact Sl.hatI hat 2 rfl | exact Sl.hatI hat 3 rfl | exact Sl.hatI hat 4 rfl | exact Sl.hatI hat 5 rfl | exact Sl.hatI hat 6 rfl | exact Sl.hatI hat 7 rfl | exact Sl.hatI hat 8 rfl | exact Sl.hatI hat 9 rfl | exact Sl.hatI hat 10 rfl | exact Sl.hatI hat 11 rfl | exact Sl.hatI hat 12 rfl | exact Sl.hatI hat 13 rfl | exact Sl.hatI hat 14 rfl | exact Sl.hatI hat 15 rfl | exact Sl.hatW hat 0 rfl | exact Sl.hatW hat 1 rfl | exact Sl.hatW hat 2 rfl | exact Sl.hatW hat 3 rfl | exact Sl.hatW hat 4 rfl | exact Sl.hatW hat 5 rfl | exact Sl.hatW hat 6 rfl | exact Sl.hatW hat 7 rfl | exact Sl.hatW hat 8 rfl | exact Sl.hatW hat 9 rfl) (by first | exact Sl.mono (by assumption) le | exact Sl.hatI hat 0 rfl | exact Sl.hatI hat 1 rfl | exact Sl.hatI hat 2 rfl | exact Sl.hatI hat 3 rfl | exact Sl.hatI hat 4 rfl | exact Sl.hatI hat 5 rfl | exact Sl.hatI hat 6 rfl | exact Sl.hatI hat 7 rfl | exact Sl.hatI hat 8 rfl | exact Sl.hatI hat 9 rfl | exact Sl.hatI hat 10 rfl | exact Sl.hatI hat 11 rfl | exact Sl.hatI hat 12 rfl | exact Sl.hatI hat 13 rfl | exact Sl.hatI hat 14 rfl | exact Sl.hatI hat 15 rfl | exact Sl.hatW hat 0 rfl | exact Sl.hatW hat 1 rfl | exact Sl.hatW hat 2 rfl | exact Sl.hatW hat 3 rfl | exact Sl.hatW hat 4 rfl | exact Sl.hatW hat 5 rfl | exact Sl.hatW hat 6 rfl | exact Sl.hatW hat 7 rfl | exact Sl.hatW hat 8 rfl | exact Sl.hatW hat 9 rfl) (by first | with_reducible assumption | omega | assumption) (by first | with_reducible assumption | omega | assumption)) ?_) rfl
      rintro _ _ ⟨rfl, rfl⟩
      refine AB.u 8 rfl (by decide +kernel) (Dtu.neS eqGuard80 (eq80 _ _) (lk rfl) (lk rfl)) rfl ?_
      refine AB.done (by decide +kernel) ?_
      refine Then.next ?_
      refine Body.cond (lk rfl) (fun hn => absurd hn (by first | (rw [hq]; decide) | simp [hq])) (fun _ => ?_)
      refine Body.skip ?_
      refine Then.next ?_
      refine Body.seq ?_
      refine Body.region ?_
      refine Ops.u (Dtu.mv (lk rfl)) rfl ?_
      refine Ops.u (Dtu.asg (lk rfl)) rfl ?_
      refine Ops.u (Dtu.asg (lk rfl)) rfl ?_
      refine Ops.nil ?_
      refine Then.next ?_
      refine Body.ret ?_
      exact ⟨.inr rfl, _, pk [1] rfl, ⟨_, _, rfl, rfl⟩⟩
    | false =>
      have hw : F.whole = ([], 40) := by unfold Fi.whole; rw [if_pos hA, if_neg (by rw [hq]; simp)]
      rw [hw]
      refine Body.seq ?_
      refine Body.region ?_
      refine Ops.u (Dtu.lss (lk rfl) (lk rfl)) rfl ?_
      refine Ops.nil ?_
      refine Then.next ?_
      refine Body.seq ?_
      refine Body.condP (lk rfl) (fun hy => absurd hy (by first | omega | assumption | decide)) (fun _ => ?_)
      refine Body.exit ?_
      refine Then.exit ?_
      refine Round.exit ?_
      refine Blk.here ?_
      refine Then.next ?_
      refine Body.seq ?_
      refine Body.seq ?_
      refine Body.draw mixed ?_
      refine AB.u 0 rfl (by decide +kernel) (Dtu.mv (lk rfl)) rfl ?_
      refine AB.pure (Sl.shape (Sl.osl 0 rfl)) fun hslv => ?_
      obtain ⟨va, vc, rfl⟩ := hslv
      refine AB.u 3 rfl (by decide +kernel) (Dtu.mv (lk rfl)) rfl ?_
      refine AB.u 4 rfl (by decide +kernel) (Dtu.nilck (lk rfl)) rfl ?_
      refine AB.u 5 rfl (by decide +kernel) (Dtu.fld fa158_0 (lk rfl)) rfl ?_
      refine AB.u 6 rfl (by decide +kernel) (Dtu.fld fa82_3 (lk rfl)) rfl ?_
      refine AB.d 7 rfl (by decide +kernel) rfl (Det.lda Try.isAgg80 Try.sizeOf80 (lk rfl) (Rds.at (m := 32) f3 rfl) rfl) rfl ?_
      refine AB.s 1 rfl (by decide +kernel) (by decide +kernel) (Stp.buildSliceO Try.underlying144 ty73 (by decide) (by decide) (lkp rfl) rfl rfl rfl (by decide) (fun v43 => ?_)) rfl
      refine AB.s 2 rfl (by decide +kernel) (by decide +kernel) (Stp.call rfl Try.call56 (lks rfl) (fun E' le hat => sof32_ok E' _ _ _ (by first | exact Sl.mono (by assumption) le | exact Sl.hatI hat 0 rfl | exact Sl.hatI hat 1 rfl | exact Sl.hatI hat 2 rfl | exact Sl.hatI hat 3 rfl | exact Sl.hatI hat 4 rfl | exact Sl.hatI hat 5 rfl | exact Sl.hatI hat 6 rfl | exact Sl.hatI hat 7 rfl | exact Sl.hatI hat 8 rfl | exact Sl.hatI hat 9 rfl | exact Sl.hatI hat 10 rfl | exact Sl.hatI hat 11 rfl | exact Sl.hatI hat 12 rfl | exact Sl.hatI hat 13 rfl | exact Sl.hatI hat 14 rfl | exact Sl.hatI hat 15 rfl | exact Sl.hatW hat 0 rfl | exact Sl.hatW hat 1 rfl | exact Sl.hatW hat 2 rfl | exact Sl.hatW hat 3 rfl | exact Sl.hatW hat 4 rfl | exact Sl.hatW hat 5 rfl | exact Sl.hatW hat 6 rfl | exact Sl.hatW hat 7 rfl | exact Sl.hatW hat 8 rfl | exact Sl.hatW hat 9 rfl) (by first | exact Sl.mono (by assumption) le | exact Sl.hatI hat 0 rfl | exact Sl.hatI hat 1 rfl | exact Sl.hatI hat 2 rfl | exact Sl.hatI hat 3 rfl | exact Sl.hatI hat 4 rfl | exact Sl.hatI hat 5 rfl | exact Sl.hatI hat 6 rfl | exact Sl.hatI hat 7 rfl | exact Sl.hatI hat 8 rfl | exact Sl.hatI hat 9 rfl | exact Sl.hatI hat 10 rfl | exact Sl.hatI hat 11 rfl | exact Sl.hatI hat 12 rfl | exact Sl.hatI hat 13 rfl | exact Sl.hatI hat 14 rfl | exact Sl.hatI hat 15 rfl | exact Sl.hatW hat 0 rfl | exact Sl.hatW hat 1 rfl | exact Sl.hatW hat 2 rfl | exact Sl.hatW hat 3 rfl | exact Sl.hatW hat 4 rfl | exact Sl.hatW hat 5 rfl | exact Sl.hatW hat 6 rfl | exact Sl.hatW hat 7 rfl | exact Sl.hatW hat 8 rfl | exact Sl.hatW hat 9 rfl) (by first | with_reducible assumption | omega | assumption) (by first | with_reducible assumption | omega | assumption)) ?_) rfl
      rintro _ _ ⟨rfl, rfl⟩
      refine AB.u 8 rfl (by decide +kernel) (Dtu.neS eqGuard80 (eq80 _ _) (lk rfl) (lk rfl)) rfl ?_
      refine AB.done (by decide +kernel) ?_
      refine Then.next ?_
      refine Body.cond (lk rfl) (fun _ => ?_) (fun hn => absurd hn (by first | (rw [hq]; decide) | simp [hq]))
      refine Body.seq ?_
      refine Body.region ?_
      refine Ops.u (Dtu.asg (lk rfl)) rfl ?_
      refine Ops.u (Dtu.asg (lk rfl)) rfl ?_
      refine Ops.nil ?_
      refine Then.next ?_
      refine Body.ret ?_
      refine Then.ret ?_
      (exact ⟨.inr rfl, _, fun w s => osl_nil (pk [] rfl w s), none, 0, rfl, rfl⟩)
end Go.Proofs.Ytpmapedhigjalaa
end
section
/- layer 26: alive. -/
namespace Go.Proofs.Ytpmapedhigjalaa
set_option maxRecDepth 100000
set_option maxHeartbeats 4000000
set_option linter.unusedVariables false
set_option linter.unusedSimpArgs false
open Go.Sx

def b65 : List Int := List.replicate 65 0
theorem b65_byt : Byt b65 := Byt.iff.2 fun x hx => by unfold b65 at hx; rw [List.mem_replicate] at hx; omega
theorem sofA_ok (E : Env) (parts p : Value) (hq : Sl E [] 1 parts 1 [p]) (hp : Sl E [] 1 p 65 (b65.map (.int .u8))) : Does Try.prog 56 #[parts] E ([]) fun r H' => r = .agg (.int .u8 (shaS b65 0) :: .int .u8 (shaS b65 1) :: .int .u8 (shaS b65 2) :: .int .u8 (shaS b65 3) :: .int .u8 (shaS b65 4) :: .int .u8 (shaS b65 5) :: .int .u8 (shaS b65 6) :: .int .u8 (shaS b65 7) :: .int .u8 (shaS b65 8) :: .int .u8 (shaS b65 9) :: .int .u8 (shaS b65 10) :: .int .u8 (shaS b65 11) :: .int .u8 (shaS b65 12) :: .int .u8 (shaS b65 13) :: .int .u8 (shaS b65 14) :: .int .u8 (shaS b65 15) :: .int .u8 (shaS b65 16) :: .int .u8 (shaS b65 17) :: .int .u8 (shaS b65 18) :: .int .u8 (shaS b65 19) :: .int .u8 (shaS b65 20) :: .int .u8 (shaS b65 21) :: .int .u8 (shaS b65 22) :: .int .u8 (shaS b65 23) :: .int .u8 (shaS b65 24) :: .int .u8 (shaS b65 25) :: .int .u8 (shaS b65 26) :: .int .u8 (shaS b65 27) :: .int .u8 (shaS b65 28) :: .int .u8 (shaS b65 29) :: .int .u8 (shaS b65 30) :: .int .u8 (shaS b65 31) :: []).toArray ∧ H' = [] := by
  exact sof32_ok E parts p b65 hq hp b65_byt (by decide)
end Go.Proofs.Ytpmapedhigjalaa
end
section
/- store: one file alone; alive. -/
namespace Go.Proofs.Ytpmapedhigjalaa
set_option maxRecDepth 100000
set_option maxHeartbeats 4000000
set_option linter.unusedVariables false
set_option linter.unusedSimpArgs false
open Go.Sx
theorem sget1 (F : Fi) {id : Int} (h : F.id = id) : sget [F] id = some F := by simp [sget, h]
theorem sput1 (F F' : Fi) (h : F'.id = F.id) : sput [F] F' = [F'] := by simp [sput, h]
theorem write1_y (E : Env) (b : Nat) (id i : Int) (v : Value) (d : List Int) (F : Fi) (hs : Sl E [] 1 v d.length (d.map (.int .u8))) (hb : Byt d) (hid : F.id = id) (hw : 0 ≤ i ∧ i < chZ F.sz) (hl : (d.length : Int) = lenZ F.sz i) : Does Try.prog 68 #[.pointer (some ⟨b, 0, none⟩), .int .u64 id, .int .i64 i, v] E ([stoP b [F]]) fun r H' => r = .int .i64 0 ∧ H' = [stoP b [F.puts ⟨i, d, crOf (d.map Int.toNat)⟩]] := by
  have := write_y E b [F] id i v d F hs hb (sget1 F hid) hw hl
  rwa [sput1 F (F.puts _) rfl] at this
theorem write1_a (E : Env) (b : Nat) (id i : Int) (v : Value) (d : List Int) (F : Fi) (hs : Sl E [] 1 v d.length (d.map (.int .u8))) (hA : At (stoP b [F]) E) (hid : F.id = id) (hw : ¬ (0 ≤ i ∧ i < chZ F.sz ∧ (d.length : Int) = lenZ F.sz i)) : Does Try.prog 68 #[.pointer (some ⟨b, 0, none⟩), .int .u64 id, .int .i64 i, v] E ([]) fun r H' => r = .int .i64 1 ∧ H' = [] := by
  exact write_a E b [F] id i v d F hs hA (sget1 F hid) hw
theorem whole1 (E : Env) (b : Nat) (id : Int) (F : Fi) (hA : At (stoP b [F]) E) (hid : F.id = id) : Does Try.prog 69 #[.pointer (some ⟨b, 0, none⟩), .int .u64 id] E ([]) fun r H' => ∃ a c, r = .tuple #[.slice a F.whole.1.length c, .int .i64 F.whole.2] ∧ H' = [osl 5 1 (.slice a F.whole.1.length c) F.whole.1.length (F.whole.1.map (.int .u8))] := by
  exact whole_y E b [F] id F hA (sget1 F hid)
theorem map1 (E : Env) (b : Nat) (id : Int) (F : Fi) (hA : At (stoP b [F]) E) (hid : F.id = id) : Does Try.prog 71 #[.pointer (some ⟨b, 0, none⟩), .int .u64 id] E ([]) fun r H' => r = .tuple #[.agg #[.int .i64 (F.n : Nat), .int .u64 (F.bits : Nat)], .int .i64 0] ∧ H' = [] := by
  exact map_y E b id [F] F hA (sget1 F hid)
theorem damage1_y (E : Env) (b : Nat) (id i at' y' : Int) (F : Fi) (k : Kc) (hid : F.id = id) (hw : cget F.cs i = some k) (hk : 0 ≤ at' ∧ at' < k.d.length) : Does Try.prog 70 #[.pointer (some ⟨b, 0, none⟩), .int .u64 id, .int .i64 i, .int .i64 at', .int .u8 y'] E ([stoP b [F]]) fun r H' => r = .int .i64 0 ∧ H' = [stoP b [F.puts ⟨i, k.d.set at'.toNat (ibit .xor .u8 k.d[at'.toNat]! y'), k.s⟩]] := by
  have := damage_y E b [F] id i at' y' F k (sget1 F hid) hw hk
  rwa [sput1 F (F.puts _) rfl] at this
def z64 : List Int := List.replicate 64 0
theorem z64_byt : Byt z64 := Byt.iff.2 fun x hx => by unfold z64 at hx; rw [List.mem_replicate] at hx; omega
def F0A : Fi := ⟨3, ⟨#[102]⟩, 65, shaS b65, []⟩
def F1A : Fi := F0A.puts ⟨1, [0], crOf ([0].map Int.toNat)⟩
def F2A : Fi := F1A.puts ⟨0, z64, crOf (z64.map Int.toNat)⟩
def F3A : Fi := F2A.puts ⟨1, [0].set 0 (ibit .xor .u8 0 1), crOf ([0].map Int.toNat)⟩
theorem openA (E : Env) (b : Nat) : Does Try.prog 66 #[.pointer (some ⟨b, 0, none⟩), .agg (.int .u64 3 :: .string ⟨#[102]⟩ :: .int .i64 65 :: .int .u8 (shaS b65 0) :: .int .u8 (shaS b65 1) :: .int .u8 (shaS b65 2) :: .int .u8 (shaS b65 3) :: .int .u8 (shaS b65 4) :: .int .u8 (shaS b65 5) :: .int .u8 (shaS b65 6) :: .int .u8 (shaS b65 7) :: .int .u8 (shaS b65 8) :: .int .u8 (shaS b65 9) :: .int .u8 (shaS b65 10) :: .int .u8 (shaS b65 11) :: .int .u8 (shaS b65 12) :: .int .u8 (shaS b65 13) :: .int .u8 (shaS b65 14) :: .int .u8 (shaS b65 15) :: .int .u8 (shaS b65 16) :: .int .u8 (shaS b65 17) :: .int .u8 (shaS b65 18) :: .int .u8 (shaS b65 19) :: .int .u8 (shaS b65 20) :: .int .u8 (shaS b65 21) :: .int .u8 (shaS b65 22) :: .int .u8 (shaS b65 23) :: .int .u8 (shaS b65 24) :: .int .u8 (shaS b65 25) :: .int .u8 (shaS b65 26) :: .int .u8 (shaS b65 27) :: .int .u8 (shaS b65 28) :: .int .u8 (shaS b65 29) :: .int .u8 (shaS b65 30) :: .int .u8 (shaS b65 31) :: []).toArray] E ([stoP b []]) fun r H' => r = .tuple #[.agg #[.int .i64 2, .int .u64 0], .int .i64 0] ∧ H' = [stoP b [F0A]] := by
  exact open_new E b [] F0A (by decide) rfl (by decide)
theorem writeA1 (E : Env) (b : Nat) (v : Value) (hs : Sl E [] 1 v 1 [.int .u8 0]) : Does Try.prog 68 #[.pointer (some ⟨b, 0, none⟩), .int .u64 3, .int .i64 1, v] E ([stoP b [F0A]]) fun r H' => r = .int .i64 0 ∧ H' = [stoP b [F1A]] := by
  exact write1_y E b 3 1 v [0] F0A hs (Byt.iff.2 (by simp)) rfl (by decide) (by decide)
theorem writeA0 (E : Env) (b : Nat) (v : Value) (hs : Sl E [] 1 v 64 (z64.map (.int .u8))) : Does Try.prog 68 #[.pointer (some ⟨b, 0, none⟩), .int .u64 3, .int .i64 0, v] E ([stoP b [F1A]]) fun r H' => r = .int .i64 0 ∧ H' = [stoP b [F2A]] := by
  exact write1_y E b 3 0 v z64 F1A hs z64_byt rfl (by decide) (by decide)
theorem whA2 : F2A.whole = (b65, 0) := by
  have h1 : F2A.allGood = true := by decide +kernel
  have h2 : F2A.pre F2A.n = b65 := by decide +kernel
  unfold Fi.whole
  rw [if_pos h1, h2, if_pos]
  exact eqS_same (shaS b65)
theorem whA3 : F3A.whole = ([], 10) := by
  have h1 : F3A.allGood = false := by decide +kernel
  unfold Fi.whole
  rw [if_neg (by rw [h1]; simp)]
theorem wholeA2 (E : Env) (b : Nat) (hA : At (stoP b [F2A]) E) : Does Try.prog 69 #[.pointer (some ⟨b, 0, none⟩), .int .u64 3] E ([]) fun r H' => ∃ a c, r = .tuple #[.slice a 65 c, .int .i64 0] ∧ H' = [osl 5 1 (.slice a 65 c) 65 (b65.map (.int .u8))] := by
  have := whole1 E b 3 F2A hA rfl
  rwa [whA2] at this
theorem wholeA3 (E : Env) (b : Nat) (hA : At (stoP b [F3A]) E) : Does Try.prog 69 #[.pointer (some ⟨b, 0, none⟩), .int .u64 3] E ([]) fun r H' => ∃ a c, r = .tuple #[.slice a 0 c, .int .i64 10] ∧ H' = [osl 5 1 (.slice a 0 c) 0 []] := by
  have := whole1 E b 3 F3A hA rfl
  rwa [whA3] at this
theorem dmgA (E : Env) (b : Nat) : Does Try.prog 70 #[.pointer (some ⟨b, 0, none⟩), .int .u64 3, .int .i64 1, .int .i64 0, .int .u8 1] E ([stoP b [F2A]]) fun r H' => r = .int .i64 0 ∧ H' = [stoP b [F3A]] := by
  exact damage1_y E b 3 1 0 1 F2A ⟨1, [0], crOf ([0].map Int.toNat)⟩ rfl rfl (by decide)
theorem writeA_a (E : Env) (b : Nat) (hA : At (stoP b [F3A]) E) : Does Try.prog 68 #[.pointer (some ⟨b, 0, none⟩), .int .u64 3, .int .i64 1, .slice none 0 0] E ([]) fun r H' => r = .int .i64 1 ∧ H' = [] := by
  exact write1_a E b 3 1 _ [] F3A Sl.nil hA rfl (by decide)
theorem alive25_ok (E : Env) : Does Try.prog 58 #[] E ([]) fun r H' => r = .bool true ∧ H' = [] := by
  have hc : chZ 100 = 2 := by decide
  refine Does.go _ _ Try.func58 rfl Try.ntmps58 rfl rfl ?_
  skip
  refine Body.seq ?_
  refine Body.region ?_
  refine Ops.u (Dtu.asg (lk rfl)) rfl ?_
  refine Ops.nil ?_
  refine Then.next ?_
  refine Body.seq ?_
  refine Body.region ?_
  refine Ops.s (Stp.call rfl Try.call65 (lks rfl) (fun E' le hat => sto_new E') ?_) rfl
  rintro _ _ ⟨t12, rfl, rfl⟩
  refine Ops.u (Dtu.asg (lk rfl)) rfl ?_
  refine Ops.nil ?_
  refine Then.next ?_
  refine Body.seq ?_
  refine Body.region ?_
  refine Ops.s (Stp.make (m := 65) Try.underlying73 ty5 rfl (lk rfl) (lk rfl) (by omega) (by omega) (by omega) (fun v13 => ?_)) rfl
  refine Ops.pure (Sl.shape (Sl.osl 0 rfl)) fun hslv13 => ?_
  obtain ⟨v13a, v13c, rfl⟩ := hslv13
  refine Ops.s (Stp.buildSliceO Try.underlying144 ty73 (by decide) (by decide) (lkp rfl) rfl rfl rfl (by decide) (fun v14 => ?_)) rfl
  refine Ops.s (Stp.call rfl Try.call56 (lks rfl) (fun E' le hat => sofA_ok E' _ _ (by first | exact Sl.mono (by assumption) le | exact Sl.hatI hat 0 rfl | exact Sl.hatI hat 1 rfl | exact Sl.hatI hat 2 rfl | exact Sl.hatI hat 3 rfl | exact Sl.hatI hat 4 rfl | exact Sl.hatI hat 5 rfl | exact Sl.hatI hat 6 rfl | exact Sl.hatI hat 7 rfl | exact Sl.hatI hat 8 rfl | exact Sl.hatI hat 9 rfl | exact Sl.hatI hat 10 rfl | exact Sl.hatI hat 11 rfl | exact Sl.hatI hat 12 rfl | exact Sl.hatI hat 13 rfl | exact Sl.hatI hat 14 rfl | exact Sl.hatI hat 15 rfl | exact Sl.hatW hat 0 rfl | exact Sl.hatW hat 1 rfl | exact Sl.hatW hat 2 rfl | exact Sl.hatW hat 3 rfl | exact Sl.hatW hat 4 rfl | exact Sl.hatW hat 5 rfl | exact Sl.hatW hat 6 rfl | exact Sl.hatW hat 7 rfl | exact Sl.hatW hat 8 rfl | exact Sl.hatW hat 9 rfl) (by first | exact Sl.mono (by assumption) le | exact Sl.hatI hat 0 rfl | exact Sl.hatI hat 1 rfl | exact Sl.hatI hat 2 rfl | exact Sl.hatI hat 3 rfl | exact Sl.hatI hat 4 rfl | exact Sl.hatI hat 5 rfl | exact Sl.hatI hat 6 rfl | exact Sl.hatI hat 7 rfl | exact Sl.hatI hat 8 rfl | exact Sl.hatI hat 9 rfl | exact Sl.hatI hat 10 rfl | exact Sl.hatI hat 11 rfl | exact Sl.hatI hat 12 rfl | exact Sl.hatI hat 13 rfl | exact Sl.hatI hat 14 rfl | exact Sl.hatI hat 15 rfl | exact Sl.hatW hat 0 rfl | exact Sl.hatW hat 1 rfl | exact Sl.hatW hat 2 rfl | exact Sl.hatW hat 3 rfl | exact Sl.hatW hat 4 rfl | exact Sl.hatW hat 5 rfl | exact Sl.hatW hat 6 rfl | exact Sl.hatW hat 7 rfl | exact Sl.hatW hat 8 rfl | exact Sl.hatW hat 9 rfl)) ?_) rfl
  rintro _ _ ⟨rfl, rfl⟩
  refine Ops.u (Dtu.build ty82 pl82 (lkp rfl) rfl rfl) rfl ?_
  refine Ops.s (Stp.alloc ty82 (fun b2 => ?_)) rfl
  refine Ops.e (Stp.store 0 Try.sizeOf82 (lk rfl) (lk rfl) rfl rfl rfl rfl rfl rfl rfl ?_)
  refine Ops.nil ?_
  refine Then.next ?_
  refine Body.seq ?_
  refine Body.region ?_
  refine Ops.u (Dtu.mv (lk rfl)) rfl ?_
  refine Ops.d (Det.lda Try.isAgg82 Try.sizeOf82 (lk rfl) (Rds.ow (m := 35) 0 rfl rfl) rfl) rfl ?_
  refine Ops.s (Stp.callOwn [3] rfl rfl Try.call66 (lks rfl) (fun E' le hat => openA E' _) ?_) rfl
  rintro _ _ ⟨rfl, rfl⟩
  refine Ops.u (Dtu.mv (lk rfl)) rfl ?_
  refine Ops.u (Dtu.ext (lk rfl) rfl) rfl ?_
  refine Ops.u (Dtu.ext (lk rfl) rfl) rfl ?_
  refine Ops.s (Stp.alloc ty86 (fun b3 => ?_)) rfl
  refine Ops.e (Stp.store 0 Try.sizeOf86 (lk rfl) (lk rfl) rfl rfl rfl rfl rfl rfl rfl ?_)
  refine Ops.u (Dtu.asg (lk rfl)) rfl ?_
  refine Ops.nil ?_
  refine Then.next ?_
  refine Body.seq ?_
  refine Body.region ?_
  refine Ops.u (Dtu.mv (lk rfl)) rfl ?_
  refine Ops.s (Stp.buildSliceO Try.underlying73 ty5 (by decide) (by decide) (lkp rfl) rfl rfl rfl (by decide) (fun v24 => ?_)) rfl
  refine Ops.s (Stp.callOwn [2] rfl rfl Try.call68 (lks rfl) (fun E' le hat => writeA1 E' _ _ (by first | exact Sl.mono (by assumption) le | exact Sl.hatI hat 0 rfl | exact Sl.hatI hat 1 rfl | exact Sl.hatI hat 2 rfl | exact Sl.hatI hat 3 rfl | exact Sl.hatI hat 4 rfl | exact Sl.hatI hat 5 rfl | exact Sl.hatI hat 6 rfl | exact Sl.hatI hat 7 rfl | exact Sl.hatI hat 8 rfl | exact Sl.hatI hat 9 rfl | exact Sl.hatI hat 10 rfl | exact Sl.hatI hat 11 rfl | exact Sl.hatI hat 12 rfl | exact Sl.hatI hat 13 rfl | exact Sl.hatI hat 14 rfl | exact Sl.hatI hat 15 rfl | exact Sl.hatW hat 0 rfl | exact Sl.hatW hat 1 rfl | exact Sl.hatW hat 2 rfl | exact Sl.hatW hat 3 rfl | exact Sl.hatW hat 4 rfl | exact Sl.hatW hat 5 rfl | exact Sl.hatW hat 6 rfl | exact Sl.hatW hat 7 rfl | exact Sl.hatW hat 8 rfl | exact Sl.hatW hat 9 rfl)) ?_) rfl
  rintro _ _ ⟨rfl, rfl⟩
  refine Ops.u (Dtu.asg (lk rfl)) rfl ?_
  refine Ops.nil ?_
  refine Then.next ?_
  refine Body.seq ?_
  refine Body.region ?_
  refine Ops.u (Dtu.mv (lk rfl)) rfl ?_
  refine Ops.s (Stp.make (m := 64) Try.underlying73 ty5 rfl (lk rfl) (lk rfl) (by omega) (by omega) (by omega) (fun v27 => ?_)) rfl
  refine Ops.s (Stp.callOwn [1] rfl rfl Try.call68 (lks rfl) (fun E' le hat => writeA0 E' _ _ (by first | exact Sl.mono (by assumption) le | exact Sl.hatI hat 0 rfl | exact Sl.hatI hat 1 rfl | exact Sl.hatI hat 2 rfl | exact Sl.hatI hat 3 rfl | exact Sl.hatI hat 4 rfl | exact Sl.hatI hat 5 rfl | exact Sl.hatI hat 6 rfl | exact Sl.hatI hat 7 rfl | exact Sl.hatI hat 8 rfl | exact Sl.hatI hat 9 rfl | exact Sl.hatI hat 10 rfl | exact Sl.hatI hat 11 rfl | exact Sl.hatI hat 12 rfl | exact Sl.hatI hat 13 rfl | exact Sl.hatI hat 14 rfl | exact Sl.hatI hat 15 rfl | exact Sl.hatW hat 0 rfl | exact Sl.hatW hat 1 rfl | exact Sl.hatW hat 2 rfl | exact Sl.hatW hat 3 rfl | exact Sl.hatW hat 4 rfl | exact Sl.hatW hat 5 rfl | exact Sl.hatW hat 6 rfl | exact Sl.hatW hat 7 rfl | exact Sl.hatW hat 8 rfl | exact Sl.hatW hat 9 rfl)) ?_) rfl
  rintro _ _ ⟨rfl, rfl⟩
  refine Ops.u (Dtu.asg (lk rfl)) rfl ?_
  refine Ops.nil ?_
  refine Then.next ?_
  refine Body.seq ?_
  refine Body.region ?_
  refine Ops.u (Dtu.mv (lk rfl)) rfl ?_
  refine Ops.s (Stp.call rfl Try.call69 (lks rfl) (fun E' le hat => wholeA2 E' _ (by first | exact At.mono (by assumption) le | exact hat _ (.head _) | exact hat _ (.tail _ (.head _)) | exact hat _ (.tail _ (.tail _ (.head _))) | exact hat _ (.tail _ (.tail _ (.tail _ (.head _)))) | exact hat _ (.tail _ (.tail _ (.tail _ (.tail _ (.head _))))) | exact hat _ (.tail _ (.tail _ (.tail _ (.tail _ (.tail _ (.head _)))))) | exact hat _ (.tail _ (.tail _ (.tail _ (.tail _ (.tail _ (.tail _ (.head _))))))) | exact hat _ (.tail _ (.tail _ (.tail _ (.tail _ (.tail _ (.tail _ (.tail _ (.head _)))))))) | exact hat _ (.tail _ (.tail _ (.tail _ (.tail _ (.tail _ (.tail _ (.tail _ (.tail _ (.head _))))))))) | exact hat _ (.tail _ (.tail _ (.tail _ (.tail _ (.tail _ (.tail _ (.tail _ (.tail _ (.tail _ (.head _)))))))))))) ?_) rfl
  rintro _ _ ⟨wa31, wc31, rfl, rfl⟩
  refine Ops.u (Dtu.mv (lk rfl)) rfl ?_
  refine Ops.u (Dtu.ext (lk rfl) rfl) rfl ?_
  refine Ops.u (Dtu.ext (lk rfl) rfl) rfl ?_
  refine Ops.u (Dtu.asg (lk rfl)) rfl ?_
  refine Ops.u (Dtu.asg (lk rfl)) rfl ?_
  refine Ops.nil ?_
  refine Then.next ?_
  refine Body.seq ?_
  refine Body.region ?_
  refine Ops.u (Dtu.mv (lk rfl)) rfl ?_
  refine Ops.s (Stp.callOwn [1] rfl rfl Try.call70 (lks rfl) (fun E' le hat => dmgA E' _) ?_) rfl
  rintro _ _ ⟨rfl, rfl⟩
  refine Ops.u (Dtu.asg (lk rfl)) rfl ?_
  refine Ops.nil ?_
  refine Then.next ?_
  refine Body.seq ?_
  refine Body.region ?_
  refine Ops.u (Dtu.mv (lk rfl)) rfl ?_
  refine Ops.s (Stp.call rfl Try.call69 (lks rfl) (fun E' le hat => wholeA3 E' _ (by first | exact At.mono (by assumption) le | exact hat _ (.head _) | exact hat _ (.tail _ (.head _)) | exact hat _ (.tail _ (.tail _ (.head _))) | exact hat _ (.tail _ (.tail _ (.tail _ (.head _)))) | exact hat _ (.tail _ (.tail _ (.tail _ (.tail _ (.head _))))) | exact hat _ (.tail _ (.tail _ (.tail _ (.tail _ (.tail _ (.head _)))))) | exact hat _ (.tail _ (.tail _ (.tail _ (.tail _ (.tail _ (.tail _ (.head _))))))) | exact hat _ (.tail _ (.tail _ (.tail _ (.tail _ (.tail _ (.tail _ (.tail _ (.head _)))))))) | exact hat _ (.tail _ (.tail _ (.tail _ (.tail _ (.tail _ (.tail _ (.tail _ (.tail _ (.head _))))))))) | exact hat _ (.tail _ (.tail _ (.tail _ (.tail _ (.tail _ (.tail _ (.tail _ (.tail _ (.tail _ (.head _)))))))))))) ?_) rfl
  rintro _ _ ⟨wa38, wc38, rfl, rfl⟩
  refine Ops.u (Dtu.mv (lk rfl)) rfl ?_
  refine Ops.u (Dtu.ext (lk rfl) rfl) rfl ?_
  refine Ops.u (Dtu.ext (lk rfl) rfl) rfl ?_
  refine Ops.u (Dtu.asg (lk rfl)) rfl ?_
  refine Ops.u (Dtu.asg (lk rfl)) rfl ?_
  refine Ops.nil ?_
  refine Then.next ?_
  refine Body.seq ?_
  refine Body.region ?_
  refine Ops.u (Dtu.mv (lk rfl)) rfl ?_
  refine Ops.u (Dtu.eql (lk rfl) (lk rfl)) rfl ?_
  refine Ops.u (Dtu.mv (lk rfl)) rfl ?_
  refine Ops.decP 43 rfl (fun _ => ?_) (fun hn => absurd (by first | omega | assumption | decide) hn)
  refine Ops.gu rfl rfl rfl (Dtu.fld fa86_0 (lk rfl)) rfl ?_
  refine Ops.gd rfl rfl rfl (Det.ld Try.isAgg3 (lk rfl) (Rd.ow 5 rfl rfl)) rfl ?_
  refine Ops.gu rfl rfl rfl (Dtu.eql (lk rfl) (lk rfl)) rfl ?_
  refine Ops.u (Dtu.pickT (lk rfl) (lk rfl)) rfl ?_
  refine Ops.u (Dtu.mv (lk rfl)) rfl ?_
  refine Ops.decP 48 rfl (fun _ => ?_) (fun hn => absurd (by first | omega | assumption | decide) hn)
  refine Ops.gu rfl rfl rfl (Dtu.mv (lk rfl)) rfl ?_
  refine Ops.gu rfl rfl rfl (Dtu.eql (lk rfl) (lk rfl)) rfl ?_
  refine Ops.u (Dtu.pickT (lk rfl) (lk rfl)) rfl ?_
  refine Ops.u (Dtu.mv (lk rfl)) rfl ?_
  refine Ops.decP 52 rfl (fun _ => ?_) (fun hn => absurd (by first | omega | assumption | decide) hn)
  refine Ops.gu rfl rfl rfl (Dtu.mv (lk rfl)) rfl ?_
  refine Ops.gu rfl rfl rfl (Dtu.eql (lk rfl) (lk rfl)) rfl ?_
  refine Ops.u (Dtu.pickT (lk rfl) (lk rfl)) rfl ?_
  refine Ops.u (Dtu.mv (lk rfl)) rfl ?_
  refine Ops.decP 56 rfl (fun _ => ?_) (fun hn => absurd (by first | omega | assumption | decide) hn)
  refine Ops.gu rfl rfl rfl (Dtu.mv (lk rfl)) rfl ?_
  refine Ops.gu rfl rfl rfl (Dtu.eql (lk rfl) (lk rfl)) rfl ?_
  refine Ops.u (Dtu.pickT (lk rfl) (lk rfl)) rfl ?_
  refine Ops.u (Dtu.mv (lk rfl)) rfl ?_
  refine Ops.decP 60 rfl (fun _ => ?_) (fun hn => absurd (by first | omega | assumption | decide) hn)
  refine Ops.gu rfl rfl rfl (Dtu.mv (lk rfl)) rfl ?_
  refine Ops.gu rfl rfl rfl (Dtu.lenS Try.underlying73 (Sl.osl 2 rfl) (lk rfl)) rfl ?_
  refine Ops.gu rfl rfl rfl (Dtu.eql (lk rfl) (lk rfl)) rfl ?_
  refine Ops.u (Dtu.pickT (lk rfl) (lk rfl)) rfl ?_
  refine Ops.u (Dtu.mv (lk rfl)) rfl ?_
  refine Ops.decP 65 rfl (fun _ => ?_) (fun hn => absurd (by first | omega | assumption | decide) hn)
  refine Ops.gu rfl rfl rfl (Dtu.mv (lk rfl)) rfl ?_
  refine Ops.gu rfl rfl rfl (Dtu.eql (lk rfl) (lk rfl)) rfl ?_
  refine Ops.u (Dtu.pickT (lk rfl) (lk rfl)) rfl ?_
  refine Ops.u (Dtu.mv (lk rfl)) rfl ?_
  refine Ops.decP 69 rfl (fun _ => ?_) (fun hn => absurd (by first | omega | assumption | decide) hn)
  refine Ops.gu rfl rfl rfl (Dtu.mv (lk rfl)) rfl ?_
  refine Ops.gu rfl rfl rfl (Dtu.eql (lk rfl) (lk rfl)) rfl ?_
  refine Ops.u (Dtu.pickT (lk rfl) (lk rfl)) rfl ?_
  refine Ops.u (Dtu.mv (lk rfl)) rfl ?_
  refine Ops.decP 73 rfl (fun _ => ?_) (fun hn => absurd (by first | omega | assumption | decide) hn)
  refine Ops.gu rfl rfl rfl (Dtu.mv (lk rfl)) rfl ?_
  refine Ops.gs rfl rfl rfl (Stp.call rfl Try.call68 (lks rfl) (fun E' le hat => writeA_a E' _ (by first | exact At.mono (by assumption) le | exact hat _ (.head _) | exact hat _ (.tail _ (.head _)) | exact hat _ (.tail _ (.tail _ (.head _))) | exact hat _ (.tail _ (.tail _ (.tail _ (.head _)))) | exact hat _ (.tail _ (.tail _ (.tail _ (.tail _ (.head _))))) | exact hat _ (.tail _ (.tail _ (.tail _ (.tail _ (.tail _ (.head _)))))) | exact hat _ (.tail _ (.tail _ (.tail _ (.tail _ (.tail _ (.tail _ (.head _))))))) | exact hat _ (.tail _ (.tail _ (.tail _ (.tail _ (.tail _ (.tail _ (.tail _ (.head _)))))))) | exact hat _ (.tail _ (.tail _ (.tail _ (.tail _ (.tail _ (.tail _ (.tail _ (.tail _ (.head _))))))))) | exact hat _ (.tail _ (.tail _ (.tail _ (.tail _ (.tail _ (.tail _ (.tail _ (.tail _ (.tail _ (.head _)))))))))))) ?_) rfl
  rintro _ _ ⟨rfl, rfl⟩
  refine Ops.gu rfl rfl rfl (Dtu.eql (lk rfl) (lk rfl)) rfl ?_
  refine Ops.u (Dtu.pickT (lk rfl) (lk rfl)) rfl ?_
  refine Ops.u (Dtu.mv (lk rfl)) rfl ?_
  refine Ops.decP 78 rfl (fun _ => ?_) (fun hn => absurd (by first | omega | assumption | decide) hn)
  refine Ops.gs rfl rfl rfl (Stp.call rfl Try.call62 (lks rfl) (fun E' le hat => schunks_ok E' _) ?_) rfl
  rintro _ _ ⟨rfl, rfl⟩
  refine Ops.gu rfl rfl rfl (Dtu.eql (lk rfl) (lk rfl)) rfl ?_
  refine Ops.u (Dtu.pickT (lk rfl) (lk rfl)) rfl ?_
  refine Ops.u (Dtu.asg (lk rfl)) rfl ?_
  refine Ops.nil ?_
  refine Then.next ?_
  refine Body.ret ?_
  exact ⟨.inr rfl, _, pk [] rfl, congrArg Value.bool (decide_eq_true hc), rfl⟩
end Go.Proofs.Ytpmapedhigjalaa
end
section
/- StoreSizes: the walk. -/
namespace Go.Proofs.Ytpmapedhigjalaa
set_option maxRecDepth 100000
set_option maxHeartbeats 4000000
set_option linter.unusedVariables false
set_option linter.unusedSimpArgs false
open Go.Sx
end Go.Proofs.Ytpmapedhigjalaa
end
section
/- StoreKeeps: the plain law. -/
namespace Go.Proofs.Ytpmapedhigjalaa
set_option maxRecDepth 100000
set_option linter.unusedVariables false
set_option linter.unusedSimpArgs false
open Go.Sx
theorem cget_put (l : List Kc) (c : Kc) (i : Int) : cget (cput l c) i = if i = c.i then some c else cget l i := by
  induction l with
  | nil => simp [cput, cget]
  | cons x l ih =>
    simp only [cput]
    by_cases h : c.i = x.i
    · rw [if_pos h]
      simp only [cget]
      by_cases h2 : i = c.i
      · rw [if_pos h2, if_pos h2]
      · rw [if_neg h2, if_neg h2, if_neg (by rw [← h]; exact h2)]
    · rw [if_neg h]
      simp only [cget]
      by_cases h2 : i = x.i
      · rw [if_pos h2, if_neg (by intro h3; exact h (by rw [← h3, h2])), if_pos h2]
      · rw [if_neg h2, ih, if_neg h2]
theorem cget_same (l : List Kc) (c : Kc) {i : Int} (h : i = c.i) : cget (cput l c) i = some c := by rw [cget_put, if_pos h]
theorem cget_other (l : List Kc) (c : Kc) {i : Int} (h : ¬ i = c.i) : cget (cput l c) i = cget l i := by rw [cget_put, if_neg h]
/-- a chunk as it is to be -/
def kcOf (bs : List Int) (j : Nat) : Kc := ⟨(j : Nat), chunk bs j, crOf ((chunk bs j).map Int.toNat)⟩
def nCh (bs : List Int) : Nat := (bs.length + 63) / 64
/-- what is there is as it is to be -/
def Kept (bs : List Int) (cs : List Kc) : Prop := ∀ j : Int, cget cs j = none ∨ ∃ i : Nat, i < nCh bs ∧ j = i ∧ cget cs j = some (kcOf bs i)
def Have (bs : List Int) (cs : List Kc) (m : Nat) : Prop := ∀ j : Nat, j < m → cget cs (j : Nat) = some (kcOf bs j)
theorem Kept.nil (bs : List Int) : Kept bs [] := fun j => .inl rfl
theorem Have.zero (bs : List Int) (cs : List Kc) : Have bs cs 0 := fun j hj => absurd hj (Nat.not_lt_zero j)
theorem Kept.put {bs : List Int} {cs : List Kc} (h : Kept bs cs) {i : Nat} (hi : i < nCh bs) : Kept bs (cput cs (kcOf bs i)) := fun j => by
  rw [cget_put]
  by_cases hj : j = (kcOf bs i).i
  · rw [if_pos hj]; exact .inr ⟨i, hi, hj, rfl⟩
  · rw [if_neg hj]; exact h j
theorem Have.put {bs : List Int} {cs : List Kc} {m : Nat} (h : Have bs cs m) (i : Nat) : Have bs (cput cs (kcOf bs i)) m := fun j hj => by
  rw [cget_put]
  by_cases hj2 : (j : Int) = (kcOf bs i).i
  · rw [if_pos hj2]
    have : j = i := by have : (j : Int) = (i : Nat) := hj2; omega
    rw [this]
  · rw [if_neg hj2]; exact h j hj
theorem Have.next {bs : List Int} {cs : List Kc} {m : Nat} (h : Have bs cs m) : Have bs (cput cs (kcOf bs m)) (m + 1) := fun j hj => by
  by_cases hm : j = m
  · subst hm; exact cget_same _ _ rfl
  · exact h.put m j (by omega)
/-- a file whose description is that of its bytes -/
def kF (id : Int) (nm : ByteArray) (bs : List Int) (cs : List Kc) : Fi := ⟨id, nm, bs.length, shaS bs, cs⟩
theorem kF_n {id : Int} {nm : ByteArray} {bs : List Int} {cs : List Kc} (h : bs.length ≤ 4096) : (kF id nm bs cs).n = nCh bs := by
  unfold Fi.n kF chZ nCh
  dsimp only
  rw [if_pos (by omega)]; omega
theorem chZ_n {bs : List Int} (h : bs.length ≤ 4096) : chZ (bs.length : Nat) = (nCh bs : Nat) := by
  unfold chZ nCh
  rw [if_pos (by omega)]; omega
theorem kF_good {id : Int} {nm : ByteArray} {bs : List Int} {cs : List Kc} {j : Nat} (h : cget cs (j : Nat) = some (kcOf bs j)) : (kF id nm bs cs).good (j : Nat) = true ∧ (kF id nm bs cs).dat (j : Nat) = chunk bs j := by
  unfold Fi.good Fi.dat kF
  dsimp only
  rw [h]
  exact ⟨decide_eq_true rfl, rfl⟩
theorem pre_take {bs : List Int} : ∀ m, m ≤ nCh bs → ((List.range m).flatMap fun i => chunk bs i) = bs.take (64 * m) := by
  intro m
  induction m with
  | zero => simp
  | succ m ih =>
    intro hm
    have h1 := ih (by omega)
    rw [List.range_succ, List.flatMap_append, h1]
    simp only [List.flatMap_cons, List.flatMap_nil, List.append_nil]
    unfold nCh at hm
    have hl : lenN bs.length m = min 64 (bs.length - 64 * m) := rfl
    rw [Nat.mul_succ, List.take_add]
    congr 1
    unfold chunk
    by_cases h : 64 ≤ bs.length - 64 * m
    · rw [show lenN bs.length m = 64 by omega]
    · rw [List.take_of_length_le (by simp; omega), List.take_of_length_le (by simp; omega)]
theorem kF_pre {id : Int} {nm : ByteArray} {bs : List Int} {cs : List Kc} (h : Have bs cs (nCh bs)) : (kF id nm bs cs).pre (nCh bs) = bs := by
  have e : (kF id nm bs cs).pre (nCh bs) = (List.range (nCh bs)).flatMap fun i => chunk bs i := by
    unfold Fi.pre
    rw [List.flatMap_def, List.flatMap_def]
    congr 1
    exact List.map_congr_left fun i hi => (kF_good (h i (List.mem_range.1 hi))).2
  rw [e, pre_take _ (Nat.le_refl _), List.take_of_length_le (by unfold nCh; omega)]
theorem kF_whole {id : Int} {nm : ByteArray} {bs : List Int} {cs : List Kc} (hl : bs.length ≤ 4096) (h : Have bs cs (nCh bs)) : (kF id nm bs cs).whole = (bs, 0) := by
  have hn := kF_n (id := id) (nm := nm) (cs := cs) hl
  unfold Fi.whole
  rw [hn, kF_pre h, if_pos, if_pos]
  · exact eqS_same (shaS bs)
  · unfold Fi.allGood
    rw [hn]
    exact List.all_eq_true.2 fun i hi => (kF_good (h i (List.mem_range.1 hi))).1
theorem kF_short {id : Int} {nm : ByteArray} {bs : List Int} {cs : List Kc} (hl : bs.length ≤ 4096) {i : Nat} (hi : i < nCh bs) (h : (kF id nm bs cs).good (i : Nat) = false) : (kF id nm bs cs).whole = ([], 10) := by
  unfold Fi.whole
  rw [if_neg]
  intro h2
  have := List.all_eq_true.1 h2 i (List.mem_range.2 (by rw [kF_n hl]; exact hi))
  rw [h] at this
  cases this
/-- how many are sound -/
theorem pc_bits (g : Nat → Bool) (n : Nat) : pc n (bitsN g n) = (List.range n).countP g := by
  rw [← pc_bl, bl, List.count_eq_countP, List.countP_map]
  refine List.countP_congr fun i hi => ?_
  rw [List.mem_range] at hi
  simp [bitsN_bit, hi]
theorem countP_but {n i : Nat} {g : Nat → Bool} (hi : i < n) (h : g i = false) (h2 : ∀ j, j < n → j ≠ i → g j = true) : (List.range n).countP g = n - 1 := by
  induction n with
  | zero => omega
  | succ n ih =>
    rw [List.range_succ, List.countP_append]
    by_cases hn : i = n
    · subst hn
      have : (List.range i).countP g = i := by
        rw [List.countP_eq_length.2 fun j hj => h2 j (by have := List.mem_range.1 hj; omega) (by have := List.mem_range.1 hj; omega), List.length_range]
      simp [this, h]
    · rw [ih (by omega) fun j hj hne => h2 j (by omega) hne]
      simp [h2 n (by omega) (fun h => hn h.symm)]; omega
theorem xor_ne {x y : Nat} (hx : x < 256) (hy : y < 256) (h : y ≠ 0) : x ^^^ y ≠ x := fun e => h (by
  have : x ^^^ y = x ^^^ 0 := by simpa using e
  exact xor_left this)
/-- a chunk of which a byte is another one has another sum -/
theorem crOf_set {d : List Int} (hd : Byt d) {k : Nat} (hk : k < d.length) {y : Int} (hy0 : 0 < y) (hy : y < 256) : crOf ((d.set k (ibit .xor .u8 d[k]! y)).map Int.toNat) ≠ crOf (d.map Int.toNat) := by
  have hb := Byt.iff.1 hd
  obtain ⟨a, x, c, rfl, rfl⟩ := list_at d hk
  have hx := hb x (by simp)
  obtain ⟨xn, rfl⟩ := Int.eq_ofNat_of_zero_le hx.1
  obtain ⟨yn, rfl⟩ := Int.eq_ofNat_of_zero_le (show 0 ≤ y by omega)
  have e0 : (a ++ (xn : Int) :: c)[a.length]! = xn := by rw [getElem!_pos _ _ (by simp)]; simp
  rw [set_at, e0, xor8_n (by omega) (by omega)]
  simp only [List.map_append, List.map_cons, Int.toNat_natCast]
  refine crOf_one (fun z hz => ?_) (fun z hz => ?_) (xor256 (by omega) (by omega)) (by omega) (xor_ne (by omega) (by omega) (by omega))
  · obtain ⟨u, hu, rfl⟩ := List.mem_map.1 hz
    have := hb u (by simp [hu]); omega
  · obtain ⟨u, hu, rfl⟩ := List.mem_map.1 hz
    have := hb u (by simp [hu]); omega
/-- a file of which one chunk was damaged -/
theorem kF_hurt {id : Int} {nm : ByteArray} {bs : List Int} {cs : List Kc} (hb : Byt bs) (hl : bs.length ≤ 4096) (h : Have bs cs (nCh bs)) {i k : Nat} (hi : i < nCh bs) (hk : k < lenN bs.length i) {y : Int} (hy0 : 0 < y) (hy : y < 256) :
    let F := kF id nm bs (cput cs ⟨(i : Nat), (chunk bs i).set k (ibit .xor .u8 (chunk bs i)[k]! y), crOf ((chunk bs i).map Int.toNat)⟩)
    F.whole = ([], 10) ∧ F.bits.testBit i = false ∧ pc F.n F.bits = nCh bs - 1 ∧ Have bs (cput (cput cs ⟨(i : Nat), (chunk bs i).set k (ibit .xor .u8 (chunk bs i)[k]! y), crOf ((chunk bs i).map Int.toNat)⟩) (kcOf bs i)) (nCh bs) := by
  intro F
  have hcl := chunk_len (bs := bs) (i := i) hi
  have hcb : Byt (chunk bs i) := Byt.iff.2 fun x hx => Byt.iff.1 hb x (List.mem_of_mem_drop (List.mem_of_mem_take hx))
  have hg : F.good (i : Nat) = false := by
    unfold Fi.good
    have : cget F.cs (i : Nat) = some ⟨(i : Nat), (chunk bs i).set k (ibit .xor .u8 (chunk bs i)[k]! y), crOf ((chunk bs i).map Int.toNat)⟩ := by
      show cget (cput cs _) _ = _
      exact cget_same _ _ rfl
    rw [this]
    exact decide_eq_false (crOf_set hcb (by omega) hy0 hy)
  have ho : ∀ j, j < nCh bs → j ≠ i → F.good (j : Nat) = true := fun j hj hne => by
    refine (kF_good ?_).1
    exact (cget_other _ _ (show ¬ ((j : Nat) : Int) = ((i : Nat) : Int) by omega)).trans (h j hj)
  have hn : F.n = nCh bs := kF_n hl
  refine ⟨kF_short hl hi hg, ?_, ?_, fun j hj => ?_⟩
  · show (bitsN _ _).testBit i = false
    rw [bitsN_bit, hg]; simp
  · show pc F.n (bitsN _ F.n) = _
    rw [pc_bits, hn]
    exact countP_but hi hg ho
  · by_cases hj2 : j = i
    · subst hj2; exact cget_same _ _ rfl
    · have hne : ¬ ((j : Nat) : Int) = ((i : Nat) : Int) := by omega
      exact (cget_other _ _ hne).trans ((cget_other _ _ hne).trans (h j hj))
end Go.Proofs.Ytpmapedhigjalaa
end
