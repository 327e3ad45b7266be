/- QNwd: StoF, StoG, StoH, StoI, StoJ, StoK, StoM. -/
import Derived.Test.YtpmapedhigjalaaRwa
import Derived.Test.YtpmapedhigjalaaRwb
import Derived.Test.YtpmapedhigjalaaRwc
import Derived.Test.YtpmapedhigjalaaRwd
import Derived.Test.YtpmapedhigjalaaRwe
section
/- store: Write, Drop, Damage. -/
namespace Go.Proofs.Ytpmapedhigjalaa
set_option maxRecDepth 100000
set_option maxHeartbeats 4000000
set_option linter.unusedVariables false
set_option linter.unusedSimpArgs false
open Go.Sx
theorem cput_mem {l : List Kc} {x c : Kc} (h : c ∈ cput l x) : c = x ∨ c ∈ l := by
  induction l with
  | nil => exact .inl (by simpa [cput] using h)
  | cons y l ih =>
    simp only [cput] at h
    split at h
    · rcases List.mem_cons.1 h with h | h
      · exact .inl h
      · exact .inr (.tail _ h)
    · rcases List.mem_cons.1 h with rfl | h
      · exact .inr (.head _)
      · exact (ih h).imp id fun h => .tail _ h
/-- a file with a chunk -/
def Fi.puts (F : Fi) (c : Kc) : Fi := ⟨F.id, F.nm, F.sz, F.sm, cput F.cs c⟩
theorem Fi.puts_ok {F : Fi} {c : Kc} (ok : F.Ok) (h1 : 0 ≤ c.i ∧ c.i < chZ F.sz) (h2 : c.d.length = lenZ F.sz c.i) (h3 : Byt c.d) : (F.puts c).Ok :=
  ⟨ok.r, fun x hx => by
    rcases cput_mem hx with rfl | hx
    · exact ⟨h1.1, h1.2, h2, h3⟩
    · exact ok.cs x hx⟩
/-- what one file of a store owns, and the others -/
theorem Does.stoY {P : Program} {g : FuncId} {args : Array Value} {E : Env} {b : Nat} {fs : List Fi} {id : Int} {F : Fi} {H : List HProp} {Q : Value → List HProp → Prop} (hn : sget fs id = some F)
    (h : ∀ z fb y cs rest es, cs.map Ch.k = F.cs → F.Ok → F.id = id → mget (fpm es) id = some (.pointer (some ⟨fb, 0, none⟩)) →
      (∀ (F' : Fi) cs' w H, F'.id = id → cs'.map Ch.k = F'.cs → F'.Ok → St E ((filA fb F' (y, cs') ++ [own b [.map (some z)] 154, omp .u64 z (fpm es), many rest]) ++ H) w → St E (stoP b (sput fs F') :: H) w) →
      Does P g args E (own fb (.int .u64 F.id :: .string F.nm :: .int .i64 F.sz :: .int .u8 (F.sm 0) :: .int .u8 (F.sm 1) :: .int .u8 (F.sm 2) :: .int .u8 (F.sm 3) :: .int .u8 (F.sm 4) :: .int .u8 (F.sm 5) :: .int .u8 (F.sm 6) :: .int .u8 (F.sm 7) :: .int .u8 (F.sm 8) :: .int .u8 (F.sm 9) :: .int .u8 (F.sm 10) :: .int .u8 (F.sm 11) :: .int .u8 (F.sm 12) :: .int .u8 (F.sm 13) :: .int .u8 (F.sm 14) :: .int .u8 (F.sm 15) :: .int .u8 (F.sm 16) :: .int .u8 (F.sm 17) :: .int .u8 (F.sm 18) :: .int .u8 (F.sm 19) :: .int .u8 (F.sm 20) :: .int .u8 (F.sm 21) :: .int .u8 (F.sm 22) :: .int .u8 (F.sm 23) :: .int .u8 (F.sm 24) :: .int .u8 (F.sm 25) :: .int .u8 (F.sm 26) :: .int .u8 (F.sm 27) :: .int .u8 (F.sm 28) :: .int .u8 (F.sm 29) :: .int .u8 (F.sm 30) :: .int .u8 (F.sm 31) :: .map (some y) :: []) 158 :: omp .i64 y (chm cs) :: many (cs.map Ch.own) :: own b [.map (some z)] 154 :: omp .u64 z (fpm es) :: many rest :: H) Q) : Does P g args E (stoP b fs :: H) Q := by
  refine Does.sto fun z es h0 => ?_
  subst h0
  obtain ⟨A, e, C, rfl, h1, h2, hm, h4, h5, h6⟩ := fpm_some hn
  obtain ⟨F0, fb⟩ := e
  dsimp only at h1
  subst h1
  refine Does.pre fun w s => ?_
  have s1 : St E (many ((A ++ (⟨F0, fb⟩ : Fp) :: C).map Fp.own) :: own b [.map (some z)] 154 :: omp .u64 z (fpm (A ++ (⟨F0, fb⟩ : Fp) :: C)) :: H) w := s.perm (List.perm_append_comm (l₁ := [_, _]) (l₂ := [_]) |>.append_right H)
  rw [List.map_append, List.map_cons] at s1
  have s2 := poolTake s1
  obtain ⟨⟨y, cs⟩, ⟨q1, q2⟩, s3⟩ := exO_out (show St E (exO _ (filA fb F0) :: _) w from s2)
  refine ⟨_, ?_, h z fb y cs (A.map Fp.own ++ C.map Fp.own) (A ++ (⟨F0, fb⟩ : Fp) :: C) q1 q2 h2 hm ?_⟩
  · exact s3.perm (List.Perm.append_left [_, _, _] (List.perm_append_comm (l₁ := [_]) (l₂ := [_, _]) |>.append_right H))
  · intro F' cs' w' H' e1 e2 e3 s4
    obtain ⟨k1, k2⟩ := h5 F' e1
    rw [← k2] at s4
    refine stoIn (z := z) (es := A ++ (⟨F', fb⟩ : Fp) :: C) k1 ?_
    have s5 : St E (filP fb F' :: many (A.map Fp.own ++ C.map Fp.own) :: own b [.map (some z)] 154 :: omp .u64 z (fpm (A ++ (⟨F', fb⟩ : Fp) :: C)) :: H') w' := by
      refine filIn (y := y) (cs := cs') e2 e3 ?_
      exact s4.perm (List.Perm.append_left [_, _, _] (List.perm_append_comm (l₁ := [_, _]) (l₂ := [_]) |>.append_right H'))
    have s6 : St E (many (A.map Fp.own ++ filP fb F' :: C.map Fp.own) :: _) w' := poolPut s5
    rw [List.map_append, List.map_cons]
    exact s6.perm (List.perm_append_comm (l₁ := [_]) (l₂ := [_, _]) |>.append_right H')
theorem hput_all {E : Env} {A : HProp} {y : Nat} {cs : List Ch} {c : Ch} {H : List HProp} {w : World} (s : St E (c.own :: A :: omp .i64 y (mput (chm cs) c.k.i c.val) :: many (cs.map Ch.own) :: H) w) : St E (A :: omp .i64 y (chm (hput cs c)) :: many ((hput cs c).map Ch.own) :: H) w := by
  rw [hput_m] at s
  have s1 : St E (c.own :: many (cs.map Ch.own) :: A :: omp .i64 y (chm (hput cs c)) :: H) w := s.perm (List.Perm.cons _ (List.perm_append_comm (l₁ := [_, _]) (l₂ := [_]) |>.append_right H))
  exact (hput_own s1).perm (List.perm_append_comm (l₁ := [_]) (l₂ := [_, _]) |>.append_right H)
theorem write_y (E : Env) (b : Nat) (fs : List Fi) (id i : Int) (v : Value) (d : List Int) (F : Fi) (hs : Sl E [] 1 v d.length (d.map (.int .u8))) (hb : Byt d) (hn : sget fs id = some F) (hw : 0 ≤ i ∧ i < chZ F.sz) (hl : (d.length : Int) = lenZ F.sz i) : Does Try.prog 68 #[.pointer (some ⟨b, 0, none⟩), .int .u64 id, .int .i64 i, v] E ([stoP b fs]) fun r H' => r = .int .i64 0 ∧ H' = [stoP b (sput fs (F.puts ⟨i, d, crOf (d.map Int.toNat)⟩))] := by
  refine Does.pure (Sl.shape hs.up) fun ⟨va, vc, hv⟩ => ?_
  subst hv
  refine Does.stoY hn fun z fb y cs rest es f1 ok hid hm shut => ?_
  have hw1 := hw.1
  have hw2 := hw.2
  have hd64 : d.length ≤ 64 := by unfold lenZ at hl; split at hl <;> omega
  refine Does.go _ _ Try.func68 rfl Try.ntmps68 rfl rfl ?_
  skip
  refine Body.seq ?_
  refine Body.region ?_
  refine Ops.u (Dtu.asg (lk rfl)) rfl ?_
  refine Ops.nil ?_
  refine Then.next ?_
  refine Body.seq ?_
  refine Body.region ?_
  refine Ops.u (Dtu.mv (lk rfl)) rfl ?_
  refine Ops.u (Dtu.mv (lk rfl)) rfl ?_
  refine Ops.s (Stp.call rfl Try.call105 (lks rfl) (fun E' le hat => find_y E' _ _ _ _ _ (by first | exact At.mono (by assumption) le | exact hat _ (.head _) | exact hat _ (.tail _ (.head _)) | exact hat _ (.tail _ (.tail _ (.head _))) | exact hat _ (.tail _ (.tail _ (.tail _ (.head _)))) | exact hat _ (.tail _ (.tail _ (.tail _ (.tail _ (.head _))))) | exact hat _ (.tail _ (.tail _ (.tail _ (.tail _ (.tail _ (.head _)))))) | exact hat _ (.tail _ (.tail _ (.tail _ (.tail _ (.tail _ (.tail _ (.head _))))))) | exact hat _ (.tail _ (.tail _ (.tail _ (.tail _ (.tail _ (.tail _ (.tail _ (.head _)))))))) | exact hat _ (.tail _ (.tail _ (.tail _ (.tail _ (.tail _ (.tail _ (.tail _ (.tail _ (.head _))))))))) | exact hat _ (.tail _ (.tail _ (.tail _ (.tail _ (.tail _ (.tail _ (.tail _ (.tail _ (.tail _ (.head _))))))))))) (by first | exact Mp.mono (by assumption) le | exact Mp.at ((by first | exact At.mono (by assumption) le | exact hat _ (.head _) | exact hat _ (.tail _ (.head _)) | exact hat _ (.tail _ (.tail _ (.head _))) | exact hat _ (.tail _ (.tail _ (.tail _ (.head _)))) | exact hat _ (.tail _ (.tail _ (.tail _ (.tail _ (.head _))))) | exact hat _ (.tail _ (.tail _ (.tail _ (.tail _ (.tail _ (.head _)))))) | exact hat _ (.tail _ (.tail _ (.tail _ (.tail _ (.tail _ (.tail _ (.head _))))))) | exact hat _ (.tail _ (.tail _ (.tail _ (.tail _ (.tail _ (.tail _ (.tail _ (.head _)))))))) | exact hat _ (.tail _ (.tail _ (.tail _ (.tail _ (.tail _ (.tail _ (.tail _ (.tail _ (.head _))))))))) | exact hat _ (.tail _ (.tail _ (.tail _ (.tail _ (.tail _ (.tail _ (.tail _ (.tail _ (.tail _ (.head _))))))))))))) (by assumption)) ?_) rfl
  rintro _ _ ⟨rfl, rfl⟩
  refine Ops.u (Dtu.mv (lk rfl)) rfl ?_
  refine Ops.u (Dtu.ext (lk rfl) rfl) rfl ?_
  refine Ops.u (Dtu.ext (lk rfl) rfl) rfl ?_
  refine Ops.u (Dtu.asg (lk rfl)) rfl ?_
  refine Ops.u (Dtu.asg (lk rfl)) rfl ?_
  refine Ops.nil ?_
  refine Then.next ?_
  refine Body.seq ?_
  refine Body.block ?_
  refine Body.seq ?_
  refine Body.region ?_
  refine Ops.u (Dtu.mv (lk rfl)) rfl ?_
  refine Ops.u (Dtu.neq (lk rfl) (lk rfl)) rfl ?_
  refine Ops.u (Dtu.asg (lk rfl)) rfl ?_
  refine Ops.nil ?_
  refine Then.next ?_
  refine Body.condP (lk rfl) (fun hy => absurd hy (by first | omega | assumption | decide)) (fun _ => ?_)
  refine Body.seq ?_
  refine Body.region ?_
  refine Ops.u (Dtu.mv (lk rfl)) rfl ?_
  refine Ops.u (Dtu.lss (lk rfl) (lk rfl)) rfl ?_
  refine Ops.u (Dtu.mv (lk rfl)) rfl ?_
  refine Ops.decP 24 rfl (fun hy => absurd hy (by first | omega | assumption | decide)) (fun _ => ?_)
  refine Ops.gu rfl rfl rfl (Dtu.mv (lk rfl)) rfl ?_
  refine Ops.gu rfl rfl rfl (Dtu.mv (lk rfl)) rfl ?_
  refine Ops.gu rfl rfl rfl (Dtu.nilck (lk rfl)) rfl ?_
  refine Ops.gu rfl rfl rfl (Dtu.fld fa158_0 (lk rfl)) rfl ?_
  refine Ops.gu rfl rfl rfl (Dtu.fld fa82_2 (lk rfl)) rfl ?_
  refine Ops.gd rfl rfl rfl (Det.ld Try.isAgg3 (lk rfl) (Rd.ow 0 rfl rfl)) rfl ?_
  refine Ops.gs rfl rfl rfl (Stp.call rfl Try.call62 (lks rfl) (fun E' le hat => schunks_ok E' _) ?_) rfl
  rintro _ _ ⟨rfl, rfl⟩
  refine Ops.gu rfl rfl rfl (Dtu.geq (lk rfl) (lk rfl)) rfl ?_
  refine Ops.u (Dtu.pickF (lk rfl) (lk rfl)) rfl ?_
  refine Ops.u (Dtu.mv (lk rfl)) rfl ?_
  refine Ops.decP 34 rfl (fun hy => absurd hy (by first | omega | assumption | decide)) (fun _ => ?_)
  refine Ops.gu rfl rfl rfl (Dtu.mv (lk rfl)) rfl ?_
  refine Ops.gu rfl rfl rfl (Dtu.lenS Try.underlying73 (Sl.up hs) (lk rfl)) rfl ?_
  refine Ops.gu rfl rfl rfl (Dtu.mv (lk rfl)) rfl ?_
  refine Ops.gu rfl rfl rfl (Dtu.nilck (lk rfl)) rfl ?_
  refine Ops.gu rfl rfl rfl (Dtu.fld fa158_0 (lk rfl)) rfl ?_
  refine Ops.gu rfl rfl rfl (Dtu.fld fa82_2 (lk rfl)) rfl ?_
  refine Ops.gd rfl rfl rfl (Det.ld Try.isAgg3 (lk rfl) (Rd.ow 0 rfl rfl)) rfl ?_
  refine Ops.gu rfl rfl rfl (Dtu.mv (lk rfl)) rfl ?_
  refine Ops.gs rfl rfl rfl (Stp.call rfl Try.call63 (lks rfl) (fun E' le hat => slength_ok E' _ _) ?_) rfl
  rintro _ _ ⟨rfl, rfl⟩
  refine Ops.gu rfl rfl rfl (Dtu.neq (lk rfl) (lk rfl)) rfl ?_
  refine Ops.u (Dtu.pickF (lk rfl) (lk rfl)) rfl ?_
  refine Ops.u (Dtu.asg (lk rfl)) rfl ?_
  refine Ops.nil ?_
  refine Then.next ?_
  refine Body.condP (lk rfl) (fun hy => absurd hy (by first | omega | assumption | decide)) (fun _ => ?_)
  refine Body.skip ?_
  refine Blk.norm ?_
  refine Then.next ?_
  refine Body.seq ?_
  refine Body.draw mixed ?_
  refine AB.u 0 rfl (by decide +kernel) (Dtu.mv (lk rfl)) rfl ?_
  refine AB.u 1 rfl (by decide +kernel) (Dtu.nilck (lk rfl)) rfl ?_
  refine AB.u 2 rfl (by decide +kernel) (Dtu.fld fa158_1 (lk rfl)) rfl ?_
  refine AB.d 3 rfl (by decide +kernel) rfl (Det.ld Try.isAgg156 (lk rfl) (Rd.ow 0 rfl rfl)) rfl ?_
  refine AB.u 4 rfl (by decide +kernel) (Dtu.mv (lk rfl)) rfl ?_
  refine AB.u 5 rfl (by decide +kernel) (Dtu.mv (lk rfl)) rfl ?_
  refine AB.u 7 rfl (by decide +kernel) (Dtu.mv (lk rfl)) rfl ?_
  refine AB.s 6 rfl (by decide +kernel) (by decide +kernel) (Stp.call rfl Try.call90 (lks rfl) (fun E' le hat => cloneB2_ok E' _ _ _ (by first | exact Sl.mono (by assumption) le | exact Sl.hatI hat 0 rfl | exact Sl.hatI hat 1 rfl | exact Sl.hatI hat 2 rfl | exact Sl.hatI hat 3 rfl | exact Sl.hatI hat 4 rfl | exact Sl.hatI hat 5 rfl | exact Sl.hatI hat 6 rfl | exact Sl.hatI hat 7 rfl | exact Sl.hatI hat 8 rfl | exact Sl.hatI hat 9 rfl | exact Sl.hatI hat 10 rfl | exact Sl.hatI hat 11 rfl | exact Sl.hatI hat 12 rfl | exact Sl.hatI hat 13 rfl | exact Sl.hatI hat 14 rfl | exact Sl.hatI hat 15 rfl | exact Sl.hatW hat 0 rfl | exact Sl.hatW hat 1 rfl | exact Sl.hatW hat 2 rfl | exact Sl.hatW hat 3 rfl | exact Sl.hatW hat 4 rfl | exact Sl.hatW hat 5 rfl | exact Sl.hatW hat 6 rfl | exact Sl.hatW hat 7 rfl | exact Sl.hatW hat 8 rfl | exact Sl.hatW hat 9 rfl) (u8s_one _) (by omega)) ?_) rfl
  rintro _ _ ⟨ca52, cc52, rfl, rfl⟩
  refine AB.s 8 rfl (by decide +kernel) (by decide +kernel) (Stp.call rfl Try.call106 (lks rfl) (fun E' le hat => crc_ok E' _ _ (by first | exact Sl.mono (by assumption) le | exact Sl.hatI hat 0 rfl | exact Sl.hatI hat 1 rfl | exact Sl.hatI hat 2 rfl | exact Sl.hatI hat 3 rfl | exact Sl.hatI hat 4 rfl | exact Sl.hatI hat 5 rfl | exact Sl.hatI hat 6 rfl | exact Sl.hatI hat 7 rfl | exact Sl.hatI hat 8 rfl | exact Sl.hatI hat 9 rfl | exact Sl.hatI hat 10 rfl | exact Sl.hatI hat 11 rfl | exact Sl.hatI hat 12 rfl | exact Sl.hatI hat 13 rfl | exact Sl.hatI hat 14 rfl | exact Sl.hatI hat 15 rfl | exact Sl.hatW hat 0 rfl | exact Sl.hatW hat 1 rfl | exact Sl.hatW hat 2 rfl | exact Sl.hatW hat 3 rfl | exact Sl.hatW hat 4 rfl | exact Sl.hatW hat 5 rfl | exact Sl.hatW hat 6 rfl | exact Sl.hatW hat 7 rfl | exact Sl.hatW hat 8 rfl | exact Sl.hatW hat 9 rfl) (by assumption)) ?_) rfl
  rintro _ _ ⟨rfl, rfl⟩
  refine AB.u 9 rfl (by decide +kernel) (Dtu.build ty166 pl166 (lkp rfl) rfl rfl) rfl ?_
  refine AB.e 10 rfl (by decide +kernel) (by decide +kernel) (Stp.mput 2 Try.underlying156 Try.underlying3 rfl (lk rfl) (lk rfl) (lk rfl) rfl ?_)
  refine AB.done (by decide +kernel) ?_
  refine Then.next ?_
  refine Body.seq ?_
  refine Body.region ?_
  refine Ops.u (Dtu.asg (lk rfl)) rfl ?_
  refine Ops.nil ?_
  refine Then.next ?_
  refine Body.ret ?_
  (exact ⟨.inr rfl, _, fun w s => shut (F.puts ⟨i, d, crOf (d.map Int.toNat)⟩) (hput cs ⟨⟨i, d, crOf (d.map Int.toNat)⟩, (Value.slice ca52 d.length cc52)⟩) w [] hid (by rw [hput_k, f1]; rfl) (Fi.puts_ok ok hw hl hb) (hput_all (c := ⟨⟨i, d, crOf (d.map Int.toNat)⟩, (Value.slice ca52 d.length cc52)⟩) s), rfl, rfl⟩)
end Go.Proofs.Ytpmapedhigjalaa
end
section
/- store: Damage. -/
namespace Go.Proofs.Ytpmapedhigjalaa
set_option maxRecDepth 100000
set_option maxHeartbeats 4000000
set_option linter.unusedVariables false
set_option linter.unusedSimpArgs false
open Go.Sx
end Go.Proofs.Ytpmapedhigjalaa
end
section
/- store: Whole. -/
namespace Go.Proofs.Ytpmapedhigjalaa
set_option maxRecDepth 100000
set_option maxHeartbeats 4000000
set_option linter.unusedVariables false
set_option linter.unusedSimpArgs false
open Go.Sx
/-- the bytes of a chunk that is there -/
def Fi.dat (F : Fi) (i : Int) : List Int := match cget F.cs i with
  | some c => c.d
  | none => []
def Fi.pre (F : Fi) (k : Nat) : List Int := (List.range k).flatMap fun i => F.dat (i : Nat)
def Fi.allGood (F : Fi) : Bool := (List.range F.n).all fun i => F.good (i : Nat)
theorem Fi.pre_succ (F : Fi) (k : Nat) : F.pre (k + 1) = F.pre k ++ F.dat (k : Nat) := by simp [Fi.pre, List.range_succ]
theorem Fi.dat_ok {F : Fi} (ok : F.Ok) (i : Int) : (F.dat i).length ≤ 64 ∧ Byt (F.dat i) := by
  unfold Fi.dat
  cases hc : cget F.cs i with
  | none => exact ⟨by simp, Byt.iff.2 (by simp)⟩
  | some c =>
    have := ok.cs c (cget_mem hc).1
    refine ⟨?_, this.2.2.2⟩
    have h := this.2.2.1
    dsimp only
    unfold lenZ at h
    split at h <;> omega
theorem Fi.pre_ok {F : Fi} (ok : F.Ok) (k : Nat) : (F.pre k).length ≤ 64 * k ∧ Byt (F.pre k) := by
  induction k with
  | zero => exact ⟨by simp [Fi.pre], Byt.iff.2 (by simp [Fi.pre])⟩
  | succ k ih =>
    obtain ⟨h1, h2⟩ := Fi.dat_ok ok (k : Nat)
    rw [F.pre_succ]
    exact ⟨by rw [List.length_append]; omega, Byt.iff.2 fun x hx => by
      rcases List.mem_append.1 hx with h | h
      · exact Byt.iff.1 ih.2 x h
      · exact Byt.iff.1 h2 x h⟩
def Fi.whole (F : Fi) : List Int × Int := if F.allGood then (if eqS (shaS (F.pre F.n)) F.sm then (F.pre F.n, 0) else ([], 40)) else ([], 10)
theorem good_y {E : Env} {F : Fi} {cs : List Ch} {y : Nat} {i : Int} (f1 : cs.map Ch.k = F.cs) (f5 : At (many (cs.map Ch.own)) E) (h : F.good i = true) : ∃ v s, mget (chm cs) i = some (.agg #[v, .int .u32 ((s : Nat) : Int)]) ∧ Sl E [] 1 v (F.dat i).length ((F.dat i).map (.int .u8)) := by
  unfold Fi.good at h
  cases hc : cget F.cs i with
  | none => rw [hc] at h; cases h
  | some k =>
    have hd : F.dat i = k.d := by unfold Fi.dat; rw [hc]
    rw [hd]
    rw [← f1] at hc
    obtain ⟨A, c, C, rfl, h3, h4, h5⟩ := chm_some hc
    subst h3
    exact ⟨c.v, c.k.s, h5, poolSl (t := 5) f5 (List.mem_map_of_mem (f := Ch.own) (by simp))⟩
theorem whole_y (E : Env) (b : Nat) (fs : List Fi) (id : Int) (F : Fi) (hA : At (stoP b fs) E) (hn : sget fs id = some F) : Does Try.prog 69 #[.pointer (some ⟨b, 0, none⟩), .int .u64 id] E ([]) fun r H' => ∃ a c, r = .tuple #[.slice a F.whole.1.length c, .int .i64 F.whole.2] ∧ H' = [osl 5 1 (.slice a F.whole.1.length c) F.whole.1.length (F.whole.1.map (.int .u8))] := by
  obtain ⟨z, es, rfl, a1, a2, a3⟩ := stoAt hA
  obtain ⟨A, e, C, rfl, h1, h2, hm, h4, h5, h6⟩ := fpm_some hn
  obtain ⟨F, b9⟩ := e
  dsimp only at h1
  subst h1
  have a4 : At (filP b9 F) E := a3 ⟨F, b9⟩ (by simp)
  obtain ⟨y, cs, f1, ok, f3, f4, f5⟩ := filAt a4
  rw [Fp.ptr] at hm
  dsimp only at hm
  have hN := F.n_eq
  have hl := F.n_le
  clear hA h4 h5 h6
  refine Does.go _ _ Try.func69 rfl Try.ntmps69 rfl rfl ?_
  skip
  refine Body.seq ?_
  refine Body.region ?_
  refine Ops.u (Dtu.asg (lk rfl)) rfl ?_
  refine Ops.u (Dtu.asg (lk rfl)) rfl ?_
  refine Ops.nil ?_
  refine Then.next ?_
  refine Body.seq ?_
  refine Body.region ?_
  refine Ops.u (Dtu.mv (lk rfl)) rfl ?_
  refine Ops.u (Dtu.mv (lk rfl)) rfl ?_
  refine Ops.s (Stp.call rfl Try.call105 (lks rfl) (fun E' le hat => find_y E' _ _ _ _ _ (by first | exact At.mono (by assumption) le | exact hat _ (.head _) | exact hat _ (.tail _ (.head _)) | exact hat _ (.tail _ (.tail _ (.head _))) | exact hat _ (.tail _ (.tail _ (.tail _ (.head _)))) | exact hat _ (.tail _ (.tail _ (.tail _ (.tail _ (.head _))))) | exact hat _ (.tail _ (.tail _ (.tail _ (.tail _ (.tail _ (.head _)))))) | exact hat _ (.tail _ (.tail _ (.tail _ (.tail _ (.tail _ (.tail _ (.head _))))))) | exact hat _ (.tail _ (.tail _ (.tail _ (.tail _ (.tail _ (.tail _ (.tail _ (.head _)))))))) | exact hat _ (.tail _ (.tail _ (.tail _ (.tail _ (.tail _ (.tail _ (.tail _ (.tail _ (.head _))))))))) | exact hat _ (.tail _ (.tail _ (.tail _ (.tail _ (.tail _ (.tail _ (.tail _ (.tail _ (.tail _ (.head _))))))))))) (by first | exact Mp.mono (by assumption) le | exact Mp.at ((by first | exact At.mono (by assumption) le | exact hat _ (.head _) | exact hat _ (.tail _ (.head _)) | exact hat _ (.tail _ (.tail _ (.head _))) | exact hat _ (.tail _ (.tail _ (.tail _ (.head _)))) | exact hat _ (.tail _ (.tail _ (.tail _ (.tail _ (.head _))))) | exact hat _ (.tail _ (.tail _ (.tail _ (.tail _ (.tail _ (.head _)))))) | exact hat _ (.tail _ (.tail _ (.tail _ (.tail _ (.tail _ (.tail _ (.head _))))))) | exact hat _ (.tail _ (.tail _ (.tail _ (.tail _ (.tail _ (.tail _ (.tail _ (.head _)))))))) | exact hat _ (.tail _ (.tail _ (.tail _ (.tail _ (.tail _ (.tail _ (.tail _ (.tail _ (.head _))))))))) | exact hat _ (.tail _ (.tail _ (.tail _ (.tail _ (.tail _ (.tail _ (.tail _ (.tail _ (.tail _ (.head _))))))))))))) (by assumption)) ?_) rfl
  rintro _ _ ⟨rfl, rfl⟩
  refine Ops.u (Dtu.mv (lk rfl)) rfl ?_
  refine Ops.u (Dtu.ext (lk rfl) rfl) rfl ?_
  refine Ops.u (Dtu.ext (lk rfl) rfl) rfl ?_
  refine Ops.u (Dtu.asg (lk rfl)) rfl ?_
  refine Ops.u (Dtu.asg (lk rfl)) rfl ?_
  refine Ops.nil ?_
  refine Then.next ?_
  refine Body.seq ?_
  refine Body.seq ?_
  refine Body.region ?_
  refine Ops.u (Dtu.mv (lk rfl)) rfl ?_
  refine Ops.u (Dtu.neq (lk rfl) (lk rfl)) rfl ?_
  refine Ops.nil ?_
  refine Then.next ?_
  refine Body.condP (lk rfl) (fun hy => absurd hy (by first | omega | assumption | decide)) (fun _ => ?_)
  refine Body.skip ?_
  refine Then.next ?_
  refine Body.seq ?_
  refine Body.region ?_
  refine Ops.u (Dtu.asg (lk rfl)) rfl ?_
  refine Ops.nil ?_
  refine Then.next ?_
  refine Body.seq ?_
  refine Body.seq ?_
  refine Body.region ?_
  refine Ops.u (Dtu.mv (lk rfl)) rfl ?_
  refine Ops.u (Dtu.nilck (lk rfl)) rfl ?_
  refine Ops.u (Dtu.fld fa158_0 (lk rfl)) rfl ?_
  refine Ops.u (Dtu.fld fa82_2 (lk rfl)) rfl ?_
  refine Ops.d (Det.ld Try.isAgg3 (lk rfl) (Rd.env (own_at f3 rfl))) rfl ?_
  refine Ops.s (Stp.call rfl Try.call62 (lks rfl) (fun E' le hat => schunks_ok E' _) ?_) rfl
  rintro _ _ ⟨rfl, rfl⟩
  refine Ops.u (Dtu.mv (lk rfl)) rfl ?_
  refine Ops.nil ?_
  refine Then.next ?_
  refine Body.block ?_
  refine Body.addNil 5 1 none ?_
  refine Body.loopL (γ := Nat × Value) [0, 1, 4, 5, 6, 7, 24] rfl (fun g => [(25, .int .i64 (g.1 : Nat)), (8, g.2)]) (fun g => [(0, osl 5 1 g.2 (F.pre g.1).length ((F.pre g.1).map (.int .u8)))]) (fun _ => rfl) (fun _ _ => rfl) (fun g => g.1 ≤ F.n ∧ ∀ i, i < g.1 → F.good (i : Nat) = true) (fun g => F.n - g.1) ((0, .slice none 0 0)) (⟨Nat.zero_le _, fun i hi => absurd hi (Nat.not_lt_zero _)⟩) ⟨rfl, rfl, trivial⟩ rfl ?_
  rintro ⟨k, v⟩ u ⟨hk, hall⟩
  dsimp only at hk hall ⊢
  obtain ⟨p1, p2⟩ := Fi.pre_ok ok k
  by_cases hlt : k < F.n
  · cases hg : F.good (k : Nat) with
    | true =>
      obtain ⟨cv, sm0, hcm, hcs⟩ := good_y (y := y) f1 f5 hg
      obtain ⟨q1, q2⟩ := Fi.dat_ok ok (k : Nat)
      refine Body.pure (Sl.shape hcs.up) fun ⟨va, vc, hv⟩ => ?_
      subst hv
      have hall2 : ∀ i, i < k + 1 → F.good (i : Nat) = true := fun i hi => by
        by_cases h : i = k
        · rw [h]; exact hg
        · exact hall i (by omega)
      refine Body.seq ?_
      refine Body.region ?_
      refine Ops.u (Dtu.lss (lk rfl) (lk rfl)) rfl ?_
      refine Ops.nil ?_
      refine Then.next ?_
      refine Body.seq ?_
      refine Body.condP (lk rfl) (fun _ => ?_) (fun hn => absurd (by first | omega | assumption | decide) hn)
      refine Body.skip ?_
      refine Then.next ?_
      refine Body.seq ?_
      refine Body.block ?_
      refine Body.seq ?_
      refine Body.region ?_
      refine Ops.u (Dtu.mv (lk rfl)) rfl ?_
      refine Ops.u (Dtu.asg (lk rfl)) rfl ?_
      refine Ops.nil ?_
      refine Then.next ?_
      refine Body.seq ?_
      refine Body.seq ?_
      refine Body.region ?_
      refine Ops.u (Dtu.mv (lk rfl)) rfl ?_
      refine Ops.u (Dtu.mv (lk rfl)) rfl ?_
      refine Ops.s (Stp.call rfl Try.call107 (lks rfl) (fun E' le hat => sound_r E' _ _ _ (by first | exact At.mono (by assumption) le | exact hat _ (.head _) | exact hat _ (.tail _ (.head _)) | exact hat _ (.tail _ (.tail _ (.head _))) | exact hat _ (.tail _ (.tail _ (.tail _ (.head _)))) | exact hat _ (.tail _ (.tail _ (.tail _ (.tail _ (.head _))))) | exact hat _ (.tail _ (.tail _ (.tail _ (.tail _ (.tail _ (.head _)))))) | exact hat _ (.tail _ (.tail _ (.tail _ (.tail _ (.tail _ (.tail _ (.head _))))))) | exact hat _ (.tail _ (.tail _ (.tail _ (.tail _ (.tail _ (.tail _ (.tail _ (.head _)))))))) | exact hat _ (.tail _ (.tail _ (.tail _ (.tail _ (.tail _ (.tail _ (.tail _ (.tail _ (.head _))))))))) | exact hat _ (.tail _ (.tail _ (.tail _ (.tail _ (.tail _ (.tail _ (.tail _ (.tail _ (.tail _ (.head _)))))))))))) ?_) rfl
      rintro _ _ ⟨rfl, rfl⟩
      refine Ops.u (Dtu.not (lk rfl)) rfl ?_
      refine Ops.nil ?_
      refine Then.next ?_
      refine Body.cond (lk rfl) (fun hn => absurd hn (by first | (rw [hg]; decide) | simp [hg])) (fun _ => ?_)
      refine Body.skip ?_
      refine Then.next ?_
      refine Body.region ?_
      refine Ops.u (Dtu.mv (lk rfl)) rfl ?_
      refine Ops.u (Dtu.mv (lk rfl)) rfl ?_
      refine Ops.u (Dtu.nilck (lk rfl)) rfl ?_
      refine Ops.u (Dtu.fld fa158_1 (lk rfl)) rfl ?_
      refine Ops.d (Det.ld Try.isAgg156 (lk rfl) (Rd.env (own_at f3 rfl))) rfl ?_
      refine Ops.u (Dtu.mv (lk rfl)) rfl ?_
      refine Ops.d (Det.lookY Try.underlying156 Try.underlying3 (Mp.up f4) (lk rfl) (lk rfl) (by with_reducible assumption)) rfl ?_
      refine Ops.u (Dtu.fieldv fo166_0 (lk rfl) rfl) rfl ?_
      refine Ops.s (Stp.append 0 Try.underlying73 ty5 rfl rfl (lk rfl) (lk rfl) (Sl.up hcs) (by first | rfl | exact all_map (fun _ => rfl) _ | exact all_flat (fun _ => rfl) _ | exact all_one (by assumption)) (by omega) (by omega) (fun v40 => ?_)) rfl
      refine Ops.u (Dtu.asg (lk rfl)) rfl ?_
      refine Ops.nil ?_
      refine Blk.norm ?_
      refine Then.next ?_
      refine Body.region ?_
      refine Ops.u (Dtu.add (lk rfl) (lk rfl) (w64 (by omega) (by omega))) rfl ?_
      refine Ops.u (Dtu.mv (lk rfl)) rfl ?_
      refine Ops.nil ?_
      refine Round.goL [0] (k + 1, v40) rfl ⟨rfl, rfl, trivial⟩ rfl (by (try dsimp only); rw [F.pre_succ, List.length_append, List.map_append]; try rfl) ⟨hlt, hall2⟩ (by dsimp only; omega)
    | false =>
      have hw : F.whole = ([], 10) := by
        unfold Fi.whole
        rw [if_neg]
        intro h
        have := List.all_eq_true.1 h k (List.mem_range.2 hlt)
        rw [hg] at this
        cases this
      rw [hw]
      refine Body.seq ?_
      refine Body.region ?_
      refine Ops.u (Dtu.lss (lk rfl) (lk rfl)) rfl ?_
      refine Ops.nil ?_
      refine Then.next ?_
      refine Body.seq ?_
      refine Body.condP (lk rfl) (fun _ => ?_) (fun hn => absurd (by first | omega | assumption | decide) hn)
      refine Body.skip ?_
      refine Then.next ?_
      refine Body.seq ?_
      refine Body.block ?_
      refine Body.seq ?_
      refine Body.region ?_
      refine Ops.u (Dtu.mv (lk rfl)) rfl ?_
      refine Ops.u (Dtu.asg (lk rfl)) rfl ?_
      refine Ops.nil ?_
      refine Then.next ?_
      refine Body.seq ?_
      refine Body.seq ?_
      refine Body.region ?_
      refine Ops.u (Dtu.mv (lk rfl)) rfl ?_
      refine Ops.u (Dtu.mv (lk rfl)) rfl ?_
      refine Ops.s (Stp.call rfl Try.call107 (lks rfl) (fun E' le hat => sound_r E' _ _ _ (by first | exact At.mono (by assumption) le | exact hat _ (.head _) | exact hat _ (.tail _ (.head _)) | exact hat _ (.tail _ (.tail _ (.head _))) | exact hat _ (.tail _ (.tail _ (.tail _ (.head _)))) | exact hat _ (.tail _ (.tail _ (.tail _ (.tail _ (.head _))))) | exact hat _ (.tail _ (.tail _ (.tail _ (.tail _ (.tail _ (.head _)))))) | exact hat _ (.tail _ (.tail _ (.tail _ (.tail _ (.tail _ (.tail _ (.head _))))))) | exact hat _ (.tail _ (.tail _ (.tail _ (.tail _ (.tail _ (.tail _ (.tail _ (.head _)))))))) | exact hat _ (.tail _ (.tail _ (.tail _ (.tail _ (.tail _ (.tail _ (.tail _ (.tail _ (.head _))))))))) | exact hat _ (.tail _ (.tail _ (.tail _ (.tail _ (.tail _ (.tail _ (.tail _ (.tail _ (.tail _ (.head _)))))))))))) ?_) rfl
      rintro _ _ ⟨rfl, rfl⟩
      refine Ops.u (Dtu.not (lk rfl)) rfl ?_
      refine Ops.nil ?_
      refine Then.next ?_
      refine Body.cond (lk rfl) (fun _ => ?_) (fun hn => absurd hn (by first | (rw [hg]; decide) | simp [hg]))
      refine Body.seq ?_
      refine Body.region ?_
      refine Ops.u (Dtu.asg (lk rfl)) rfl ?_
      refine Ops.u (Dtu.asg (lk rfl)) rfl ?_
      refine Ops.nil ?_
      refine Then.next ?_
      refine Body.ret ?_
      refine Then.ret ?_
      refine Blk.ret ?_
      refine Then.ret ?_
      refine Round.ret ?_
      refine Blk.ret ?_
      refine Then.ret ?_
      (exact ⟨.inr rfl, _, fun w s => osl_nil (pk [] rfl w s), none, 0, rfl, rfl⟩)
  · obtain rfl : k = F.n := by omega
    have hA : F.allGood = true := List.all_eq_true.2 fun i hi => hall i (List.mem_range.1 hi)
    cases hq : eqS (shaS (F.pre F.n)) F.sm with
    | true =>
      have hw : F.whole = (F.pre F.n, 0) := by unfold Fi.whole; rw [if_pos hA, if_pos hq]
      rw [hw]
      refine Body.seq ?_
      refine Body.region ?_
      refine Ops.u (Dtu.lss (lk rfl) (lk rfl)) rfl ?_
      refine Ops.nil ?_
      refine Then.next ?_
      refine Body.seq ?_
      refine Body.condP (lk rfl) (fun hy => absurd hy (by first | omega | assumption | decide)) (fun _ => ?_)
      refine Body.exit ?_
      refine Then.exit ?_
      refine Round.exit ?_
      refine Blk.here ?_
      refine Then.next ?_
      refine Body.seq ?_
      refine Body.seq ?_
      refine Body.draw mixed ?_
      refine AB.u 0 rfl (by decide +kernel) (Dtu.mv (lk rfl)) rfl ?_
      refine AB.pure (Sl.shape (Sl.osl 0 rfl)) fun hslv => ?_
      obtain ⟨va, vc, rfl⟩ := hslv
      refine AB.u 3 rfl (by decide +kernel) (Dtu.mv (lk rfl)) rfl ?_
      refine AB.u 4 rfl (by decide +kernel) (Dtu.nilck (lk rfl)) rfl ?_
      refine AB.u 5 rfl (by decide +kernel) (Dtu.fld fa158_0 (lk rfl)) rfl ?_
      refine AB.u 6 rfl (by decide +kernel) (Dtu.fld fa82_3 (lk rfl)) rfl ?_
      refine AB.d 7 rfl (by decide +kernel) rfl (Det.lda Try.isAgg80 Try.sizeOf80 (lk rfl) (Rds.at (m := 32) f3 rfl) rfl) rfl ?_
      refine AB.s 1 rfl (by decide +kernel) (by decide +kernel) (Stp.buildSliceO Try.underlying144 ty73 (by decide) (by decide) (lkp rfl) rfl rfl rfl (by decide) (fun v43 => ?_)) rfl
      refine AB.s 2 rfl (by decide +kernel) (by decide +kernel) (Stp.call rfl Try.call56 (lks rfl) (fun E' le hat => sof32_ok E' _ _ _ (by first | exact Sl.mono (by assumption) le | exact Sl.hatI hat 0 rfl | exact Sl.hatI hat 1 rfl | exact Sl.hatI hat 2 rfl | exact Sl.hatI hat 3 rfl | exact Sl.hatI hat 4 rfl | exact Sl.hatI hat 5 rfl | exact Sl.hatI hat 6 rfl | exact Sl.hatI hat 7 rfl | exact Sl.hatI hat 8 rfl | exact Sl.hatI hat 9 rfl | exact Sl.hatI hat 10 rfl | exact Sl.hatI hat 11 rfl | exact Sl.hatI hat 12 rfl | exact Sl.hatI hat 13 rfl | exact Sl.hatI hat 14 rfl | exact Sl.hatI hat 15 rfl | exact Sl.hatW hat 0 rfl | exact Sl.hatW hat 1 rfl | exact Sl.hatW hat 2 rfl | exact Sl.hatW hat 3 rfl | exact Sl.hatW hat 4 rfl | exact Sl.hatW hat 5 rfl | exact Sl.hatW hat 6 rfl | exact Sl.hatW hat 7 rfl | exact Sl.hatW hat 8 rfl | exact Sl.hatW hat 9 rfl) (by first | exact Sl.mono (by assumption) le | exact Sl.hatI hat 0 rfl | exact Sl.hatI hat 1 rfl | exact Sl.hatI hat 2 rfl | exact Sl.hatI hat 3 rfl | exact Sl.hatI hat 4 rfl | exact Sl.hatI hat 5 rfl | exact Sl.hatI hat 6 rfl | exact Sl.hatI hat 7 rfl | exact Sl.hatI hat 8 rfl | exact Sl.hatI hat 9 rfl | exact Sl.hatI hat 10 rfl | exact Sl.hatI hat 11 rfl | exact Sl.hatI hat 12 rfl | exact Sl.hatI hat 13 rfl | exact Sl.hatI hat 14 rfl | exact Sl.hatI hat 15 rfl | exact Sl.hatW hat 0 rfl | exact Sl.hatW hat 1 rfl | exact Sl.hatW hat 2 rfl | exact Sl.hatW hat 3 rfl | exact Sl.hatW hat 4 rfl | exact Sl.hatW hat 5 rfl | exact Sl.hatW hat 6 rfl | exact Sl.hatW hat 7 rfl | exact Sl.hatW hat 8 rfl | exact Sl.hatW hat 9 rfl) (by first | with_reducible assumption | omega | assumption) (by first | with_reducible assumption | omega | assumption)) ?_) rfl
      rintro _ _ ⟨rfl, rfl⟩
      refine AB.u 8 rfl (by decide +kernel) (Dtu.neS eqGuard80 (eq80 _ _) (lk rfl) (lk rfl)) rfl ?_
      refine AB.done (by decide +kernel) ?_
      refine Then.next ?_
      refine Body.cond (lk rfl) (fun hn => absurd hn (by first | (rw [hq]; decide) | simp [hq])) (fun _ => ?_)
      refine Body.skip ?_
      refine Then.next ?_
      refine Body.seq ?_
      refine Body.region ?_
      refine Ops.u (Dtu.mv (lk rfl)) rfl ?_
      refine Ops.u (Dtu.asg (lk rfl)) rfl ?_
      refine Ops.u (Dtu.asg (lk rfl)) rfl ?_
      refine Ops.nil ?_
      refine Then.next ?_
      refine Body.ret ?_
      exact ⟨.inr rfl, _, pk [1] rfl, ⟨_, _, rfl, rfl⟩⟩
    | false =>
      have hw : F.whole = ([], 40) := by unfold Fi.whole; rw [if_pos hA, if_neg (by rw [hq]; simp)]
      rw [hw]
      refine Body.seq ?_
      refine Body.region ?_
      refine Ops.u (Dtu.lss (lk rfl) (lk rfl)) rfl ?_
      refine Ops.nil ?_
      refine Then.next ?_
      refine Body.seq ?_
      refine Body.condP (lk rfl) (fun hy => absurd hy (by first | omega | assumption | decide)) (fun _ => ?_)
      refine Body.exit ?_
      refine Then.exit ?_
      refine Round.exit ?_
      refine Blk.here ?_
      refine Then.next ?_
      refine Body.seq ?_
      refine Body.seq ?_
      refine Body.draw mixed ?_
      refine AB.u 0 rfl (by decide +kernel) (Dtu.mv (lk rfl)) rfl ?_
      refine AB.pure (Sl.shape (Sl.osl 0 rfl)) fun hslv => ?_
      obtain ⟨va, vc, rfl⟩ := hslv
      refine AB.u 3 rfl (by decide +kernel) (Dtu.mv (lk rfl)) rfl ?_
      refine AB.u 4 rfl (by decide +kernel) (Dtu.nilck (lk rfl)) rfl ?_
      refine AB.u 5 rfl (by decide +kernel) (Dtu.fld fa158_0 (lk rfl)) rfl ?_
      refine AB.u 6 rfl (by decide +kernel) (Dtu.fld fa82_3 (lk rfl)) rfl ?_
      refine AB.d 7 rfl (by decide +kernel) rfl (Det.lda Try.isAgg80 Try.sizeOf80 (lk rfl) (Rds.at (m := 32) f3 rfl) rfl) rfl ?_
      refine AB.s 1 rfl (by decide +kernel) (by decide +kernel) (Stp.buildSliceO Try.underlying144 ty73 (by decide) (by decide) (lkp rfl) rfl rfl rfl (by decide) (fun v43 => ?_)) rfl
      refine AB.s 2 rfl (by decide +kernel) (by decide +kernel) (Stp.call rfl Try.call56 (lks rfl) (fun E' le hat => sof32_ok E' _ _ _ (by first | exact Sl.mono (by assumption) le | exact Sl.hatI hat 0 rfl | exact Sl.hatI hat 1 rfl | exact Sl.hatI hat 2 rfl | exact Sl.hatI hat 3 rfl | exact Sl.hatI hat 4 rfl | exact Sl.hatI hat 5 rfl | exact Sl.hatI hat 6 rfl | exact Sl.hatI hat 7 rfl | exact Sl.hatI hat 8 rfl | exact Sl.hatI hat 9 rfl | exact Sl.hatI hat 10 rfl | exact Sl.hatI hat 11 rfl | exact Sl.hatI hat 12 rfl | exact Sl.hatI hat 13 rfl | exact Sl.hatI hat 14 rfl | exact Sl.hatI hat 15 rfl | exact Sl.hatW hat 0 rfl | exact Sl.hatW hat 1 rfl | exact Sl.hatW hat 2 rfl | exact Sl.hatW hat 3 rfl | exact Sl.hatW hat 4 rfl | exact Sl.hatW hat 5 rfl | exact Sl.hatW hat 6 rfl | exact Sl.hatW hat 7 rfl | exact Sl.hatW hat 8 rfl | exact Sl.hatW hat 9 rfl) (by first | exact Sl.mono (by assumption) le | exact Sl.hatI hat 0 rfl | exact Sl.hatI hat 1 rfl | exact Sl.hatI hat 2 rfl | exact Sl.hatI hat 3 rfl | exact Sl.hatI hat 4 rfl | exact Sl.hatI hat 5 rfl | exact Sl.hatI hat 6 rfl | exact Sl.hatI hat 7 rfl | exact Sl.hatI hat 8 rfl | exact Sl.hatI hat 9 rfl | exact Sl.hatI hat 10 rfl | exact Sl.hatI hat 11 rfl | exact Sl.hatI hat 12 rfl | exact Sl.hatI hat 13 rfl | exact Sl.hatI hat 14 rfl | exact Sl.hatI hat 15 rfl | exact Sl.hatW hat 0 rfl | exact Sl.hatW hat 1 rfl | exact Sl.hatW hat 2 rfl | exact Sl.hatW hat 3 rfl | exact Sl.hatW hat 4 rfl | exact Sl.hatW hat 5 rfl | exact Sl.hatW hat 6 rfl | exact Sl.hatW hat 7 rfl | exact Sl.hatW hat 8 rfl | exact Sl.hatW hat 9 rfl) (by first | with_reducible assumption | omega | assumption) (by first | with_reducible assumption | omega | assumption)) ?_) rfl
      rintro _ _ ⟨rfl, rfl⟩
      refine AB.u 8 rfl (by decide +kernel) (Dtu.neS eqGuard80 (eq80 _ _) (lk rfl) (lk rfl)) rfl ?_
      refine AB.done (by decide +kernel) ?_
      refine Then.next ?_
      refine Body.cond (lk rfl) (fun _ => ?_) (fun hn => absurd hn (by first | (rw [hq]; decide) | simp [hq]))
      refine Body.seq ?_
      refine Body.region ?_
      refine Ops.u (Dtu.asg (lk rfl)) rfl ?_
      refine Ops.u (Dtu.asg (lk rfl)) rfl ?_
      refine Ops.nil ?_
      refine Then.next ?_
      refine Body.ret ?_
      refine Then.ret ?_
      (exact ⟨.inr rfl, _, fun w s => osl_nil (pk [] rfl w s), none, 0, rfl, rfl⟩)
end Go.Proofs.Ytpmapedhigjalaa
end
section
/- store: one file alone; alive. -/
namespace Go.Proofs.Ytpmapedhigjalaa
set_option maxRecDepth 100000
set_option maxHeartbeats 4000000
set_option linter.unusedVariables false
set_option linter.unusedSimpArgs false
open Go.Sx
theorem sget1 (F : Fi) {id : Int} (h : F.id = id) : sget [F] id = some F := by simp [sget, h]
theorem sput1 (F F' : Fi) (h : F'.id = F.id) : sput [F] F' = [F'] := by simp [sput, h]
theorem write1_y (E : Env) (b : Nat) (id i : Int) (v : Value) (d : List Int) (F : Fi) (hs : Sl E [] 1 v d.length (d.map (.int .u8))) (hb : Byt d) (hid : F.id = id) (hw : 0 ≤ i ∧ i < chZ F.sz) (hl : (d.length : Int) = lenZ F.sz i) : Does Try.prog 68 #[.pointer (some ⟨b, 0, none⟩), .int .u64 id, .int .i64 i, v] E ([stoP b [F]]) fun r H' => r = .int .i64 0 ∧ H' = [stoP b [F.puts ⟨i, d, crOf (d.map Int.toNat)⟩]] := by
  have := write_y E b [F] id i v d F hs hb (sget1 F hid) hw hl
  rwa [sput1 F (F.puts _) rfl] at this
theorem whole1 (E : Env) (b : Nat) (id : Int) (F : Fi) (hA : At (stoP b [F]) E) (hid : F.id = id) : Does Try.prog 69 #[.pointer (some ⟨b, 0, none⟩), .int .u64 id] E ([]) fun r H' => ∃ a c, r = .tuple #[.slice a F.whole.1.length c, .int .i64 F.whole.2] ∧ H' = [osl 5 1 (.slice a F.whole.1.length c) F.whole.1.length (F.whole.1.map (.int .u8))] := by
  exact whole_y E b [F] id F hA (sget1 F hid)
theorem map1 (E : Env) (b : Nat) (id : Int) (F : Fi) (hA : At (stoP b [F]) E) (hid : F.id = id) : Does Try.prog 71 #[.pointer (some ⟨b, 0, none⟩), .int .u64 id] E ([]) fun r H' => r = .tuple #[.agg #[.int .i64 (F.n : Nat), .int .u64 (F.bits : Nat)], .int .i64 0] ∧ H' = [] := by
  exact map_y E b id [F] F hA (sget1 F hid)
end Go.Proofs.Ytpmapedhigjalaa
end
section
/- StoreSizes: the walk. -/
namespace Go.Proofs.Ytpmapedhigjalaa
set_option maxRecDepth 100000
set_option maxHeartbeats 4000000
set_option linter.unusedVariables false
set_option linter.unusedSimpArgs false
open Go.Sx
end Go.Proofs.Ytpmapedhigjalaa
end
section
/- StoreKeeps: the plain law. -/
namespace Go.Proofs.Ytpmapedhigjalaa
set_option maxRecDepth 100000
set_option linter.unusedVariables false
set_option linter.unusedSimpArgs false
open Go.Sx
theorem cget_put (l : List Kc) (c : Kc) (i : Int) : cget (cput l c) i = if i = c.i then some c else cget l i := by
  induction l with
  | nil => simp [cput, cget]
  | cons x l ih =>
    simp only [cput]
    by_cases h : c.i = x.i
    · rw [if_pos h]
      simp only [cget]
      by_cases h2 : i = c.i
      · rw [if_pos h2, if_pos h2]
      · rw [if_neg h2, if_neg h2, if_neg (by rw [← h]; exact h2)]
    · rw [if_neg h]
      simp only [cget]
      by_cases h2 : i = x.i
      · rw [if_pos h2, if_neg (by intro h3; exact h (by rw [← h3, h2])), if_pos h2]
      · rw [if_neg h2, ih, if_neg h2]
theorem cget_same (l : List Kc) (c : Kc) {i : Int} (h : i = c.i) : cget (cput l c) i = some c := by rw [cget_put, if_pos h]
theorem cget_other (l : List Kc) (c : Kc) {i : Int} (h : ¬ i = c.i) : cget (cput l c) i = cget l i := by rw [cget_put, if_neg h]
/-- a chunk as it is to be -/
def kcOf (bs : List Int) (j : Nat) : Kc := ⟨(j : Nat), chunk bs j, crOf ((chunk bs j).map Int.toNat)⟩
def nCh (bs : List Int) : Nat := (bs.length + 63) / 64
/-- what is there is as it is to be -/
def Kept (bs : List Int) (cs : List Kc) : Prop := ∀ j : Int, cget cs j = none ∨ ∃ i : Nat, i < nCh bs ∧ j = i ∧ cget cs j = some (kcOf bs i)
def Have (bs : List Int) (cs : List Kc) (m : Nat) : Prop := ∀ j : Nat, j < m → cget cs (j : Nat) = some (kcOf bs j)
theorem Kept.nil (bs : List Int) : Kept bs [] := fun j => .inl rfl
theorem Have.zero (bs : List Int) (cs : List Kc) : Have bs cs 0 := fun j hj => absurd hj (Nat.not_lt_zero j)
theorem Kept.put {bs : List Int} {cs : List Kc} (h : Kept bs cs) {i : Nat} (hi : i < nCh bs) : Kept bs (cput cs (kcOf bs i)) := fun j => by
  rw [cget_put]
  by_cases hj : j = (kcOf bs i).i
  · rw [if_pos hj]; exact .inr ⟨i, hi, hj, rfl⟩
  · rw [if_neg hj]; exact h j
theorem Have.put {bs : List Int} {cs : List Kc} {m : Nat} (h : Have bs cs m) (i : Nat) : Have bs (cput cs (kcOf bs i)) m := fun j hj => by
  rw [cget_put]
  by_cases hj2 : (j : Int) = (kcOf bs i).i
  · rw [if_pos hj2]
    have : j = i := by have : (j : Int) = (i : Nat) := hj2; omega
    rw [this]
  · rw [if_neg hj2]; exact h j hj
theorem Have.next {bs : List Int} {cs : List Kc} {m : Nat} (h : Have bs cs m) : Have bs (cput cs (kcOf bs m)) (m + 1) := fun j hj => by
  by_cases hm : j = m
  · subst hm; exact cget_same _ _ rfl
  · exact h.put m j (by omega)
/-- a file whose description is that of its bytes -/
def kF (id : Int) (nm : ByteArray) (bs : List Int) (cs : List Kc) : Fi := ⟨id, nm, bs.length, shaS bs, cs⟩
theorem kF_n {id : Int} {nm : ByteArray} {bs : List Int} {cs : List Kc} (h : bs.length ≤ 4096) : (kF id nm bs cs).n = nCh bs := by
  unfold Fi.n kF chZ nCh
  dsimp only
  rw [if_pos (by omega)]; omega
theorem chZ_n {bs : List Int} (h : bs.length ≤ 4096) : chZ (bs.length : Nat) = (nCh bs : Nat) := by
  unfold chZ nCh
  rw [if_pos (by omega)]; omega
theorem kF_good {id : Int} {nm : ByteArray} {bs : List Int} {cs : List Kc} {j : Nat} (h : cget cs (j : Nat) = some (kcOf bs j)) : (kF id nm bs cs).good (j : Nat) = true ∧ (kF id nm bs cs).dat (j : Nat) = chunk bs j := by
  unfold Fi.good Fi.dat kF
  dsimp only
  rw [h]
  exact ⟨decide_eq_true rfl, rfl⟩
theorem pre_take {bs : List Int} : ∀ m, m ≤ nCh bs → ((List.range m).flatMap fun i => chunk bs i) = bs.take (64 * m) := by
  intro m
  induction m with
  | zero => simp
  | succ m ih =>
    intro hm
    have h1 := ih (by omega)
    rw [List.range_succ, List.flatMap_append, h1]
    simp only [List.flatMap_cons, List.flatMap_nil, List.append_nil]
    unfold nCh at hm
    have hl : lenN bs.length m = min 64 (bs.length - 64 * m) := rfl
    rw [Nat.mul_succ, List.take_add]
    congr 1
    unfold chunk
    by_cases h : 64 ≤ bs.length - 64 * m
    · rw [show lenN bs.length m = 64 by omega]
    · rw [List.take_of_length_le (by simp; omega), List.take_of_length_le (by simp; omega)]
theorem kF_pre {id : Int} {nm : ByteArray} {bs : List Int} {cs : List Kc} (h : Have bs cs (nCh bs)) : (kF id nm bs cs).pre (nCh bs) = bs := by
  have e : (kF id nm bs cs).pre (nCh bs) = (List.range (nCh bs)).flatMap fun i => chunk bs i := by
    unfold Fi.pre
    rw [List.flatMap_def, List.flatMap_def]
    congr 1
    exact List.map_congr_left fun i hi => (kF_good (h i (List.mem_range.1 hi))).2
  rw [e, pre_take _ (Nat.le_refl _), List.take_of_length_le (by unfold nCh; omega)]
theorem kF_whole {id : Int} {nm : ByteArray} {bs : List Int} {cs : List Kc} (hl : bs.length ≤ 4096) (h : Have bs cs (nCh bs)) : (kF id nm bs cs).whole = (bs, 0) := by
  have hn := kF_n (id := id) (nm := nm) (cs := cs) hl
  unfold Fi.whole
  rw [hn, kF_pre h, if_pos, if_pos]
  · exact eqS_same (shaS bs)
  · unfold Fi.allGood
    rw [hn]
    exact List.all_eq_true.2 fun i hi => (kF_good (h i (List.mem_range.1 hi))).1
end Go.Proofs.Ytpmapedhigjalaa
end
section
/- StoreKeeps: the walk. -/
namespace Go.Proofs.Ytpmapedhigjalaa
set_option maxRecDepth 100000
set_option maxHeartbeats 4000000
set_option linter.unusedVariables false
set_option linter.unusedSimpArgs false
open Go.Sx
theorem open0 (E : Env) (b : Nat) (id : Int) (nm : ByteArray) (bs : List Int) (hr : infoR id nm bs.length = true) : Does Try.prog 66 #[.pointer (some ⟨b, 0, none⟩), .agg (.int .u64 id :: .string nm :: .int .i64 (bs.length : Nat) :: .int .u8 (shaS bs 0) :: .int .u8 (shaS bs 1) :: .int .u8 (shaS bs 2) :: .int .u8 (shaS bs 3) :: .int .u8 (shaS bs 4) :: .int .u8 (shaS bs 5) :: .int .u8 (shaS bs 6) :: .int .u8 (shaS bs 7) :: .int .u8 (shaS bs 8) :: .int .u8 (shaS bs 9) :: .int .u8 (shaS bs 10) :: .int .u8 (shaS bs 11) :: .int .u8 (shaS bs 12) :: .int .u8 (shaS bs 13) :: .int .u8 (shaS bs 14) :: .int .u8 (shaS bs 15) :: .int .u8 (shaS bs 16) :: .int .u8 (shaS bs 17) :: .int .u8 (shaS bs 18) :: .int .u8 (shaS bs 19) :: .int .u8 (shaS bs 20) :: .int .u8 (shaS bs 21) :: .int .u8 (shaS bs 22) :: .int .u8 (shaS bs 23) :: .int .u8 (shaS bs 24) :: .int .u8 (shaS bs 25) :: .int .u8 (shaS bs 26) :: .int .u8 (shaS bs 27) :: .int .u8 (shaS bs 28) :: .int .u8 (shaS bs 29) :: .int .u8 (shaS bs 30) :: .int .u8 (shaS bs 31) :: []).toArray] E ([stoP b []]) fun r H' => r = .tuple #[.agg #[.int .i64 (nCh bs : Nat), .int .u64 0], .int .i64 0] ∧ H' = [stoP b [kF id nm bs []]] := by
  have hl : bs.length ≤ 4096 := by have := of_decide_eq_true hr; omega
  have := open_new E b [] (kF id nm bs []) hr rfl (by decide)
  rw [show chZ (kF id nm bs []).sz = chZ (bs.length : Nat) from rfl, chZ_n hl] at this
  exact this
theorem Kept.chunk_byt {bs : List Int} (hb : Byt bs) (i : Nat) : Byt (chunk bs i) := Byt.iff.2 fun x hx => Byt.iff.1 hb x (List.mem_of_mem_drop (List.mem_of_mem_take hx))
theorem writeK (E : Env) (b : Nat) (id : Int) (nm : ByteArray) (bs : List Int) (cs : List Kc) (i : Nat) (v : Value) (hs : Sl E [] 1 v (lenN bs.length i) ((chunk bs i).map (.int .u8))) (hb : Byt bs) (hlb : bs.length ≤ 4096) (hi : i < nCh bs) : Does Try.prog 68 #[.pointer (some ⟨b, 0, none⟩), .int .u64 id, .int .i64 (i : Nat), v] E ([stoP b [kF id nm bs cs]]) fun r H' => r = .int .i64 0 ∧ H' = [stoP b [kF id nm bs (cput cs (kcOf bs i))]] := by
  have hl := chunk_len (bs := bs) (i := i) hi
  have hz := chZ_n hlb
  have hlz := lenN_Z hlb (i := i) hi
  rw [← hl] at hs
  exact write1_y E b id (i : Nat) v (chunk bs i) (kF id nm bs cs) hs (Kept.chunk_byt hb i) rfl ⟨by omega, by show _ < chZ (bs.length : Nat); omega⟩ (by rw [hl]; exact hlz.symm)
theorem wholeK (E : Env) (b : Nat) (id : Int) (nm : ByteArray) (bs : List Int) (cs : List Kc) (w : List Int) (e : Int) (hA : At (stoP b [kF id nm bs cs]) E) (hw : (kF id nm bs cs).whole = (w, e)) : Does Try.prog 69 #[.pointer (some ⟨b, 0, none⟩), .int .u64 id] E ([]) fun r H' => ∃ a c, r = .tuple #[.slice a w.length c, .int .i64 e] ∧ H' = [osl 5 1 (.slice a w.length c) w.length (w.map (.int .u8))] := by
  have := whole1 E b id (kF id nm bs cs) hA rfl
  rwa [hw] at this
theorem mapK (E : Env) (b : Nat) (id : Int) (nm : ByteArray) (bs : List Int) (cs : List Kc) (hA : At (stoP b [kF id nm bs cs]) E) (hlb : bs.length ≤ 4096) : Does Try.prog 71 #[.pointer (some ⟨b, 0, none⟩), .int .u64 id] E ([]) fun r H' => r = .tuple #[.agg #[.int .i64 (nCh bs : Nat), .int .u64 ((kF id nm bs cs).bits : Nat)], .int .i64 0] ∧ H' = [] := by
  have := map1 E b id (kF id nm bs cs) hA rfl
  rwa [kF_n hlb] at this
end Go.Proofs.Ytpmapedhigjalaa
end
