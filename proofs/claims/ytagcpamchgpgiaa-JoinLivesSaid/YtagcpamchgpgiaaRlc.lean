/- QNla: OpnA, JoiA, JoiB, JoiC, JoiD, JoiE, JoiF. -/
import Derived.WalkKit
import Derived.ProofKit
import Derived.OpenShut
import Derived.Carry
import Derived.Deep.Slices
import Derived.Test.YtagcpamchgpgiaaRla
import Derived.Test.YtagcpamchgpgiaaRlb
section
/- Arguments: fields, bytes, numbers. -/
namespace Go.Proofs.Ytagcpamchgpgiaa
set_option maxRecDepth 100000
set_option linter.unusedVariables false
set_option linter.unusedSimpArgs false
open Go.Sx Go.ChangeShapes Go.RowKit Go.WideShapes
section
variable {H : Type} {enc : TypeId × Value → H} {W : World} {base : Nat} {held : Bool} {fuel : Nat} {cs : List Value} {x : DataW H × List MemPlace}
theorem fldT {P : Program} {sp : Nat → Bool} {t : TypeId} {fs : Array Field} (ht : P.underlying t = some (.struct fs)) (h : DataW.trod enc P W base sp held fuel t cs = some x) (i : Nat) (t' off c : Nat) {f : Field} (hi : fs[i]? = some f) (e1 : f.type = t') (e2 : f.offset = off) (e3 : P.cellsOf t' = c) :
    ∃ n y, DataW.trod enc P W base sp held n t' ((cs.drop off).take c) = some y := by
  subst e1 e2 e3
  obtain ⟨xs, n, _, _, _, hl, hf⟩ := DataW.trod_struct ht h
  have hlt : i < xs.length := by rw [hl]; exact (Array.getElem?_eq_some_iff.1 hi).1
  exact ⟨n, xs[i], by rw [hf i f hi, List.getElem?_eq_getElem hlt]⟩
theorem lenT {P : Program} {sp : Nat → Bool} {t : TypeId} {fs : Array Field} (ht : P.underlying t = some (.struct fs)) (h : DataW.trod enc P W base sp held fuel t cs = some x) : cs.length = P.cellsOf t := by
  obtain ⟨xs, n, _, _, hc, _, _⟩ := DataW.trod_struct ht h
  exact hc
theorem cells1_5 : Try.prog.cellsOf 5 = 1 := by kernel_rfl
theorem cells1_23 : Try.prog.cellsOf 23 = 1 := by kernel_rfl
theorem flat_one (l : List Int) : l.flatMap (fun b => [Value.int .u8 b]) = l.map (.int .u8) := by
  induction l with
  | nil => rfl
  | cons a l ih => rw [List.flatMap_cons, ih]; rfl
theorem trod_bys (h : DataW.trod enc Try.prog W base (fun _ => true) held fuel 23 cs = some x) : ∃ (s : Value) (l : List Int), cs = [s] ∧ Sl (envOf W) [] 1 s l.length (l.map (.int .u8)) ∧ ∀ b ∈ l, 0 ≤ b ∧ b ≤ 255 := by
  obtain ⟨s, l, h1, h2, h3⟩ := trod_list (en := fun b => [Value.int .u8 b]) (Q := fun b => 0 ≤ b ∧ b ≤ 255) Try.underlying23 cells1_5 (by omega) (fun _ => rfl) (fun {fuel cs x} h => by
    obtain ⟨a, e, _, w⟩ := DataW.trod_int Try.underlying5 h
    have hb := bounds_u8 w
    have : cs = [.int .u8 a] := by simpa using e
    exact ⟨a, this, hb⟩) h
  rw [flat_one] at h2
  exact ⟨s, l, h1, h2, h3⟩
end
end Go.Proofs.Ytagcpamchgpgiaa
end
section
/- slices.Sort of at most twelve numbers. -/
namespace Go.Proofs.Ytagcpamchgpgiaa
set_option maxRecDepth 100000
set_option maxHeartbeats 4000000
set_option linter.unusedVariables false
set_option linter.unusedSimpArgs false
open Go.Sx

abbrev u6 : Nat → Value := fun n => .int .u64 (n : Int)
theorem isNaN_ok (E : Env) (x : Nat) : Does Try.prog 110 #[.int .u64 (x : Nat)] E ([]) fun r H' => r = .bool false ∧ H' = [] := by
  refine Does.go _ _ Try.func110 rfl Try.ntmps110 rfl rfl ?_
  skip
  have h : ¬ ((x : Int) ≠ (x : Int)) := fun h => h rfl
  refine Body.seq ?_
  refine Body.region ?_
  refine Ops.u (Dtu.asg (lk rfl)) rfl ?_
  refine Ops.nil ?_
  refine Then.next ?_
  refine Body.seq ?_
  refine Body.region ?_
  refine Ops.u (Dtu.mv (lk rfl)) rfl ?_
  refine Ops.u (Dtu.mv (lk rfl)) rfl ?_
  refine Ops.u (Dtu.neq (lk rfl) (lk rfl)) rfl ?_
  refine Ops.u (Dtu.asg (lk rfl)) rfl ?_
  refine Ops.nil ?_
  refine Then.next ?_
  refine Body.ret ?_
  exact ⟨.inr rfl, _, pk [] rfl, congrArg Value.bool (decide_eq_false h), rfl⟩
theorem less_ok (E : Env) (x y : Nat) : Does Try.prog 89 #[.int .u64 (x : Nat), .int .u64 (y : Nat)] E ([]) fun r H' => r = .bool (decide ((x : Int) < (y : Int))) ∧ H' = [] := by
  refine Does.go _ _ Try.func89 rfl Try.ntmps89 rfl rfl ?_
  skip
  refine Body.seq ?_
  refine Body.region ?_
  refine Ops.u (Dtu.asg (lk rfl)) rfl ?_
  refine Ops.nil ?_
  refine Then.next ?_
  refine Body.seq ?_
  refine Body.region ?_
  refine Ops.u (Dtu.mv (lk rfl)) rfl ?_
  refine Ops.s (Stp.call rfl Try.call110 (lks rfl) (fun E' le hat => isNaN_ok E' _) ?_) rfl
  rintro _ _ ⟨rfl, rfl⟩
  refine Ops.u (Dtu.mv (lk rfl)) rfl ?_
  refine Ops.gn rfl rfl rfl rfl rfl ?_
  refine Ops.gn rfl rfl rfl rfl rfl ?_
  refine Ops.gn rfl rfl rfl rfl rfl ?_
  refine Ops.u (Dtu.pickF (lk rfl) (lk rfl)) rfl ?_
  refine Ops.u (Dtu.mv (lk rfl)) rfl ?_
  refine Ops.gu rfl rfl rfl (Dtu.mv (lk rfl)) rfl ?_
  refine Ops.gu rfl rfl rfl (Dtu.mv (lk rfl)) rfl ?_
  refine Ops.gu rfl rfl rfl (Dtu.lss (lk rfl) (lk rfl)) rfl ?_
  refine Ops.u (Dtu.pickF (lk rfl) (lk rfl)) rfl ?_
  refine Ops.u (Dtu.asg (lk rfl)) rfl ?_
  refine Ops.nil ?_
  refine Then.next ?_
  refine Body.ret ?_
  exact ⟨.inr rfl, _, pk [] rfl, rfl, rfl⟩
/-- what is put into a list that is sorted, as far as it has come down -/
def sifted (p q : List Nat) (x j : Nat) : List Nat := p.take j ++ x :: p.drop j ++ q
theorem sifted_len (p q : List Nat) (x j : Nat) : (sifted p q x j).length = p.length + 1 + q.length := by
  simp [sifted]; omega
theorem sifted_at {p q : List Nat} {x j : Nat} (h : j ≤ p.length) : (sifted p q x j)[j]! = x := by
  have : (sifted p q x j)[j]? = some x := by simp [sifted, List.getElem?_append, Nat.min_eq_left h]
  rw [List.getElem!_eq_getElem?_getD, this]; rfl
theorem sifted_pre {p q : List Nat} {x j : Nat} (h : j < p.length) : (sifted p q x (j + 1))[j]! = p[j]! := by
  have : (sifted p q x (j + 1))[j]? = some p[j]! := by
    rw [getElem!_pos p j h]
    simp [sifted, List.getElem?_append, h, Nat.min_eq_left (show j + 1 ≤ p.length by omega)]
  rw [List.getElem!_eq_getElem?_getD, this]; rfl
theorem sifted_swap {p q : List Nat} {x j : Nat} (h : j < p.length) : ((sifted p q x (j + 1)).set (j + 1) p[j]!).set j x = sifted p q x j := by
  rw [getElem!_pos p j h]
  refine List.ext_getElem? fun k => ?_
  simp only [List.getElem?_set, sifted, List.length_set, List.length_append, List.length_take, List.length_cons, List.length_drop, List.append_assoc, List.cons_append]
  have e1 : min (j + 1) p.length = j + 1 := by omega
  have e2 : min j p.length = j := by omega
  by_cases k1 : j = k
  · subst k1
    rw [if_pos rfl, if_pos (by omega), List.getElem?_append_right (by simp [e2])]
    simp [e2]
  · rw [if_neg k1]
    by_cases k2 : j + 1 = k
    · subst k2
      rw [if_pos rfl, if_pos (by omega), List.getElem?_append_right (by simp; omega)]
      rw [List.length_take, e2, show j + 1 - j = 0 + 1 by omega, List.getElem?_cons_succ, List.getElem?_append_left (by simp; omega)]
      simp [h]
    · rw [if_neg k2]
      by_cases k3 : k < j
      · rw [List.getElem?_append_left (by simp; omega), List.getElem?_append_left (by simp; omega)]
        simp [k3, show k < j + 1 by omega]
      · rw [List.getElem?_append_right (by simp; omega), List.getElem?_append_right (by simp; omega)]
        simp only [List.length_take, e1, e2]
        obtain ⟨m, rfl⟩ : ∃ m, k = j + 2 + m := ⟨k - j - 2, by omega⟩
        rw [show j + 2 + m - (j + 1) = m + 1 by omega, show j + 2 + m - j = m + 2 by omega, List.getElem?_cons_succ, List.getElem?_cons_succ, List.drop_eq_getElem_cons h, List.cons_append, List.getElem?_cons_succ]
theorem sifted_take {p q : List Nat} {x j k : Nat} (hp : p.length = k + 1) (h : j ≤ p.length) : (sifted p q x j).take (k + 1 + 1) = p.take j ++ x :: p.drop j := by
  rw [sifted, List.take_left' (by simp; omega)]
theorem sifted_perm (p q : List Nat) (x j : Nat) : (sifted p q x j).Perm (p ++ x :: q) := by
  have h1 : (p.take j ++ (x :: p.drop j)).Perm (x :: p) := by
    refine List.perm_middle.trans (List.Perm.cons x ?_)
    rw [List.take_append_drop]
  have h2 := h1.append_right q
  refine (List.Perm.of_eq (by simp [sifted])).trans (h2.trans ?_)
  exact (List.perm_middle (l₁ := p)).symm
theorem sifted_sorted {p : List Nat} {x j : Nat} (hp : p.Pairwise (· ≤ ·)) (hd : ∀ y ∈ p.drop j, x < y) (ht : ∀ y ∈ p.take j, y ≤ x) : (p.take j ++ x :: p.drop j).Pairwise (· ≤ ·) := by
  rw [List.pairwise_append]
  refine ⟨hp.sublist (List.take_sublist _ _), List.pairwise_cons.2 ⟨fun y hy => Nat.le_of_lt (hd y hy), hp.sublist (List.drop_sublist _ _)⟩, fun a ha b hb => ?_⟩
  rcases List.mem_cons.1 hb with rfl | hb
  · exact ht a ha
  · exact Nat.le_trans (ht a ha) (Nat.le_of_lt (hd b hb))
theorem take_le {p : List Nat} {x j : Nat} (hp : p.Pairwise (· ≤ ·)) (hj : j < p.length) (h : p[j]! ≤ x) : ∀ y ∈ p.take (j + 1), y ≤ x := fun y hy => by
  obtain ⟨i, hi, rfl⟩ := List.getElem_of_mem hy
  simp at hi
  rw [getElem!_pos p j hj] at h
  rw [List.getElem_take]
  rcases Nat.lt_or_ge i j with h2 | h2
  · exact Nat.le_trans (List.pairwise_iff_getElem.1 hp i j (by omega) hj h2) h
  · obtain rfl : i = j := by omega
    exact h
theorem sifted_start {zs : List Nat} {i : Nat} (h : i < zs.length) : sifted (zs.take i) (zs.drop (i + 1)) zs[i]! i = zs := by
  rw [getElem!_pos zs i h]
  simp only [sifted]
  rw [List.take_of_length_le (by simp; omega), List.drop_of_length_le (by simp; omega)]
  simp
theorem insSort_ok (E : Env) (v : Value) (xs : List Nat) : Does Try.prog 83 #[v, .int .i64 0, .int .i64 (xs.length : Nat)] E ([osl 22 1 v xs.length (xs.map u6)]) fun r H' => ∃ ys : List Nat, r = .tuple #[] ∧ H' = [osl 22 1 v xs.length (ys.map u6)] ∧ ys.Perm xs ∧ ys.Pairwise (· ≤ ·) := by
  refine Does.pure (fun w s => (Sl.osl 0 rfl).len w s) fun hlen => ?_
  obtain ⟨_, hm⟩ := hlen
  refine Does.go _ _ Try.func83 rfl Try.ntmps83 rfl rfl ?_
  skip
  refine Body.seq ?_
  refine Body.region ?_
  refine Ops.u (Dtu.mv (lk rfl)) rfl ?_
  refine Ops.u (Dtu.add (lk rfl) (lk rfl) (w64 (by omega) (by omega))) rfl ?_
  refine Ops.u (Dtu.asg (lk rfl)) rfl ?_
  refine Ops.nil ?_
  refine Then.next ?_
  refine Body.block ?_
  refine Body.loopL (γ := Nat × List Nat) [0, 1, 2] rfl (fun g => [(6, .int .i64 (g.1 + 1 : Nat))]) (fun g => [(0, osl 22 1 v xs.length (g.2.map u6))]) (fun _ => rfl) (fun _ _ => rfl) (fun g => g.1 ≤ xs.length ∧ g.2.Perm xs ∧ (g.2.take (g.1 + 1)).Pairwise (· ≤ ·)) (fun g => xs.length - g.1) ((0, xs)) (⟨by omega, List.Perm.refl _, by (rcases xs with _ | ⟨a, l⟩ <;> simp)⟩) ⟨rfl, trivial⟩ rfl ?_
  rintro ⟨k, zs⟩ u ⟨hk, hp, hs⟩
  dsimp only at hk hp hs ⊢
  have hzl := hp.length_eq
  by_cases hlt : k + 1 < xs.length
  · refine Body.seq ?_
    refine Body.seq ?_
    refine Body.region ?_
    refine Ops.u (Dtu.mv (lk rfl)) rfl ?_
    refine Ops.u (Dtu.mv (lk rfl)) rfl ?_
    refine Ops.u (Dtu.lss (lk rfl) (lk rfl)) rfl ?_
    refine Ops.nil ?_
    refine Then.next ?_
    refine Body.condP (lk rfl) (fun _ => ?_) (fun hn => absurd (by first | omega | assumption | decide) hn)
    refine Body.skip ?_
    refine Then.next ?_
    refine Body.seq ?_
    refine Body.block ?_
    refine Body.seq ?_
    refine Body.region ?_
    refine Ops.u (Dtu.mv (lk rfl)) rfl ?_
    refine Ops.u (Dtu.asg (lk rfl)) rfl ?_
    refine Ops.nil ?_
    refine Then.next ?_
    refine Body.block ?_
    have hst := sifted_start (zs := zs) (i := k + 1) (by omega)
    have hpl : (zs.take (k + 1)).length = k + 1 := by simp; omega
    have hsp := sifted_perm (zs.take (k + 1)) (zs.drop (k + 2)) zs[k + 1]!
    have hsl := sifted_len (zs.take (k + 1)) (zs.drop (k + 2)) zs[k + 1]!
    have hzz : zs.take (k + 1) ++ zs[k + 1]! :: zs.drop (k + 2) = zs := by rw [getElem!_pos zs (k + 1) (by omega)]; simp
    have hql : (zs.drop (k + 2)).length = zs.length - (k + 2) := by simp
    rw [hzz] at hsp
    have hen := fun j h1 h2 => sifted_sorted (p := zs.take (k + 1)) (x := zs[k + 1]!) (j := j) hs h1 h2
    generalize hpe : zs.take (k + 1) = p at *
    generalize zs.drop (k + 2) = q at *
    generalize hxe : zs[k + 1]! = x at *
    rw [← hst]
    refine Body.loopL (γ := Nat) [0, 1, 2, 6] rfl (fun j => [(7, .int .i64 (j : Nat))]) (fun j => [(0, osl 22 1 v xs.length ((sifted p q x j).map u6))]) (fun _ => rfl) (fun _ _ => rfl) (fun j => j ≤ k + 1 ∧ ∀ y ∈ p.drop j, x < y) (fun j => j) (k + 1) (⟨Nat.le_refl _, by rw [List.drop_of_length_le (by omega)]; simp⟩) ⟨rfl, trivial⟩ rfl ?_
    rintro j u2 ⟨hj, hd⟩
    have hsa := sifted_at (p := p) (q := q) (x := x) (j := j) (by omega)
    have hsj := hsl j
    by_cases hj0 : j = 0
    · subst hj0
      have hz0 : ¬ ((0 : Nat) : Int) > 0 := by omega
      refine Body.seq ?_
      refine Body.seq ?_
      refine Body.draw mixed ?_
      refine AB.u 0 rfl (by decide +kernel) (Dtu.mv (lk rfl)) rfl ?_
      refine AB.u 1 rfl (by decide +kernel) (Dtu.mv (lk rfl)) rfl ?_
      refine AB.u 2 rfl (by decide +kernel) (Dtu.gtr (lk rfl) (lk rfl)) rfl ?_
      refine AB.u 3 rfl (by decide +kernel) (Dtu.mv (lk rfl)) rfl ?_
      refine AB.decP 19 rfl (fun hy => absurd hy (by first | omega | assumption | decide)) (fun _ => ?_)
      refine AB.gn 4 rfl (by decide +kernel) rfl rfl rfl rfl rfl ?_
      refine AB.gn 5 rfl (by decide +kernel) rfl rfl rfl rfl rfl ?_
      refine AB.gn 6 rfl (by decide +kernel) rfl rfl rfl rfl rfl ?_
      refine AB.gn 7 rfl (by decide +kernel) rfl rfl rfl rfl rfl ?_
      refine AB.gn 8 rfl (by decide +kernel) rfl rfl rfl rfl rfl ?_
      refine AB.gn 9 rfl (by decide +kernel) rfl rfl rfl rfl rfl ?_
      refine AB.gn 10 rfl (by decide +kernel) rfl rfl rfl rfl rfl ?_
      refine AB.gn 11 rfl (by decide +kernel) rfl rfl rfl rfl rfl ?_
      refine AB.gn 12 rfl (by decide +kernel) rfl rfl rfl rfl rfl ?_
      refine AB.gn 13 rfl (by decide +kernel) rfl rfl rfl rfl rfl ?_
      refine AB.u 14 rfl (by decide +kernel) (Dtu.pickF (lk rfl) (lk rfl)) rfl ?_
      refine AB.done (by decide +kernel) ?_
      refine Then.next ?_
      refine Body.condF (lk rfl) ?_
      refine Body.exit ?_
      refine Then.exit ?_
      refine Round.exit ?_
      refine Blk.here ?_
      refine Blk.norm ?_
      refine Then.next ?_
      refine Body.region ?_
      refine Ops.u (Dtu.mv (lk rfl)) rfl ?_
      refine Ops.u (Dtu.add (lk rfl) (lk rfl) (w64 (by omega) (by omega))) rfl ?_
      refine Ops.u (Dtu.asg (lk rfl)) rfl ?_
      refine Ops.nil ?_
      refine Round.goL [0] (k + 1, sifted p q x 0) rfl ⟨rfl, trivial⟩ rfl rfl ⟨by dsimp only; omega, (hsp 0).trans hp, by dsimp only; rw [sifted_take hpl (by omega)]; exact hen 0 hd (by simp)⟩ (by dsimp only; omega)
    · obtain ⟨j, rfl⟩ : ∃ i, j = i + 1 := ⟨j - 1, by omega⟩
      have hsb : (sifted p q x (j + 1))[j + 1 - 1]! = p[j]! := sifted_pre (p := p) (q := q) (x := x) (j := j) (by omega)
      by_cases hx : x < p[j]!
      · have hsw := sifted_swap (p := p) (q := q) (x := x) (j := j) (by omega)
        have hsl2 : ((sifted p q x (j + 1)).set (j + 1) (sifted p q x (j + 1))[j + 1 - 1]!).length = p.length + 1 + q.length := by rw [List.length_set, hsj]
        have hsw2 : ((sifted p q x (j + 1)).set (j + 1) (sifted p q x (j + 1))[j + 1 - 1]!).set (j + 1 - 1) (sifted p q x (j + 1))[j + 1]! = sifted p q x j := by rw [hsb, hsa]; exact hsw
        have hz7 : ∀ k : IntKind, some (Value.int k (((j + 1 : Nat) : Int) - 1)) = some (Value.int k (j : Nat)) := fun k => congrArg (fun z => some (Value.int k z)) (by omega)
        have hdj : ∀ y ∈ p.drop j, x < y := fun y hy => by
          rw [List.drop_eq_getElem_cons (by omega)] at hy
          rcases List.mem_cons.1 hy with rfl | hy
          · rw [getElem!_pos p j (by omega)] at hx; exact hx
          · exact hd y hy
        refine Body.seq ?_
        refine Body.seq ?_
        refine Body.draw mixed ?_
        refine AB.u 0 rfl (by decide +kernel) (Dtu.mv (lk rfl)) rfl ?_
        refine AB.u 1 rfl (by decide +kernel) (Dtu.mv (lk rfl)) rfl ?_
        refine AB.u 2 rfl (by decide +kernel) (Dtu.gtr (lk rfl) (lk rfl)) rfl ?_
        refine AB.u 3 rfl (by decide +kernel) (Dtu.mv (lk rfl)) rfl ?_
        refine AB.decP 19 rfl (fun _ => ?_) (fun hn => absurd (by first | omega | assumption | decide) hn)
        refine AB.gu 4 rfl (by decide +kernel) rfl rfl rfl (Dtu.mv (lk rfl)) rfl ?_
        refine AB.gu 5 rfl (by decide +kernel) rfl rfl rfl (Dtu.mv (lk rfl)) rfl ?_
        refine AB.gu 6 rfl (by decide +kernel) rfl rfl rfl (Dtu.ix (i := (j + 1)) Try.underlying38 Try.sizeOf22 (Sl.osl 0 rfl) (lk rfl) (lk rfl) (by omega) (by omega)) rfl ?_
        refine AB.gd 7 rfl (by decide +kernel) rfl rfl rfl rfl (Det.ld Try.isAgg22 (lk rfl) (Rd.sl (Sl.osl 0 rfl) (gm (by omega)))) rfl ?_
        refine AB.gu 8 rfl (by decide +kernel) rfl rfl rfl (Dtu.mv (lk rfl)) rfl ?_
        refine AB.gu 9 rfl (by decide +kernel) rfl rfl rfl (Dtu.mv (lk rfl)) rfl ?_
        refine AB.gu 10 rfl (by decide +kernel) rfl rfl rfl (Dtu.sub (lk rfl) (lk rfl) (w64 (by omega) (by omega))) rfl ?_
        refine AB.gu 11 rfl (by decide +kernel) rfl rfl rfl (Dtu.ix (i := (j + 1 - 1)) Try.underlying38 Try.sizeOf22 (Sl.osl 0 rfl) (lk rfl) (lk rfl) (by omega) (by omega)) rfl ?_
        refine AB.gd 12 rfl (by decide +kernel) rfl rfl rfl rfl (Det.ld Try.isAgg22 (lk rfl) (Rd.sl (Sl.osl 0 rfl) (gm (by omega)))) rfl ?_
        refine AB.gs 13 rfl (by decide +kernel) (by decide +kernel) rfl rfl rfl (Stp.call rfl Try.call89 (lks rfl) (fun E' le hat => less_ok E' _ _) ?_) rfl
        rintro _ _ ⟨rfl, rfl⟩
        refine AB.u 14 rfl (by decide +kernel) (Dtu.pickT (lk rfl) (lk rfl)) rfl ?_
        refine AB.done (by decide +kernel) ?_
        refine Then.next ?_
        refine Body.condP (lk rfl) (fun _ => ?_) (fun hn => absurd (by first | omega | assumption | decide) hn)
        refine Body.skip ?_
        refine Then.next ?_
        refine Body.seq ?_
        refine Body.block ?_
        refine Body.draw mixed ?_
        refine AB.u 0 rfl (by decide +kernel) (Dtu.mv (lk rfl)) rfl ?_
        refine AB.u 1 rfl (by decide +kernel) (Dtu.mv (lk rfl)) rfl ?_
        refine AB.u 2 rfl (by decide +kernel) (Dtu.mv (lk rfl)) rfl ?_
        refine AB.u 3 rfl (by decide +kernel) (Dtu.mv (lk rfl)) rfl ?_
        refine AB.u 4 rfl (by decide +kernel) (Dtu.sub (lk rfl) (lk rfl) (w64 (by omega) (by omega))) rfl ?_
        refine AB.u 5 rfl (by decide +kernel) (Dtu.mv (lk rfl)) rfl ?_
        refine AB.u 6 rfl (by decide +kernel) (Dtu.mv (lk rfl)) rfl ?_
        refine AB.u 7 rfl (by decide +kernel) (Dtu.sub (lk rfl) (lk rfl) (w64 (by omega) (by omega))) rfl ?_
        refine AB.u 8 rfl (by decide +kernel) (Dtu.ix (i := (j + 1 - 1)) Try.underlying38 Try.sizeOf22 (Sl.osl 0 rfl) (lk rfl) (lk rfl) (by omega) (by omega)) rfl ?_
        refine AB.d 9 rfl (by decide +kernel) rfl (Det.ld Try.isAgg22 (lk rfl) (Rd.sl (Sl.osl 0 rfl) (gm (by omega)))) rfl ?_
        refine AB.u 10 rfl (by decide +kernel) (Dtu.mv (lk rfl)) rfl ?_
        refine AB.u 11 rfl (by decide +kernel) (Dtu.mv (lk rfl)) rfl ?_
        refine AB.u 12 rfl (by decide +kernel) (Dtu.ix (i := (j + 1)) Try.underlying38 Try.sizeOf22 (Sl.osl 0 rfl) (lk rfl) (lk rfl) (by omega) (by omega)) rfl ?_
        refine AB.d 13 rfl (by decide +kernel) rfl (Det.ld Try.isAgg22 (lk rfl) (Rd.sl (Sl.osl 0 rfl) (gm (by omega)))) rfl ?_
        refine AB.u 14 rfl (by decide +kernel) (Dtu.ix (i := (j + 1)) Try.underlying38 Try.sizeOf22 (Sl.osl 0 rfl) (lk rfl) (lk rfl) (by omega) (by omega)) rfl ?_
        refine AB.e 15 rfl (by decide +kernel) (by decide +kernel) (Stp.storeM 0 Try.sizeOf22 rfl (lk rfl) (lk rfl) (fun _ => rfl) rfl (by omega) rfl ?_)
        refine AB.u 16 rfl (by decide +kernel) (Dtu.ix (i := (j + 1 - 1)) Try.underlying38 Try.sizeOf22 (Sl.osl 0 rfl) (lk rfl) (lk rfl) (by omega) (by omega)) rfl ?_
        refine AB.e 17 rfl (by decide +kernel) (by decide +kernel) (Stp.storeM 0 Try.sizeOf22 rfl (lk rfl) (lk rfl) (fun _ => rfl) rfl (by omega) rfl ?_)
        refine AB.done (by decide +kernel) ?_
        refine Blk.norm ?_
        refine Then.next ?_
        refine Body.region ?_
        refine Ops.u (Dtu.mv (lk rfl)) rfl ?_
        refine Ops.u (Dtu.sub (lk rfl) (lk rfl) (w64 (by omega) (by omega))) rfl ?_
        refine Ops.u (Dtu.asg (lk rfl)) rfl ?_
        refine Ops.nil ?_
        refine Round.goL [0] j rfl ⟨hz7 _, trivial⟩ rfl (by (try dsimp only); rw [hsw2]) ⟨by omega, hdj⟩ (by omega)
      · refine Body.seq ?_
        refine Body.seq ?_
        refine Body.draw mixed ?_
        refine AB.u 0 rfl (by decide +kernel) (Dtu.mv (lk rfl)) rfl ?_
        refine AB.u 1 rfl (by decide +kernel) (Dtu.mv (lk rfl)) rfl ?_
        refine AB.u 2 rfl (by decide +kernel) (Dtu.gtr (lk rfl) (lk rfl)) rfl ?_
        refine AB.u 3 rfl (by decide +kernel) (Dtu.mv (lk rfl)) rfl ?_
        refine AB.decP 19 rfl (fun _ => ?_) (fun hn => absurd (by first | omega | assumption | decide) hn)
        refine AB.gu 4 rfl (by decide +kernel) rfl rfl rfl (Dtu.mv (lk rfl)) rfl ?_
        refine AB.gu 5 rfl (by decide +kernel) rfl rfl rfl (Dtu.mv (lk rfl)) rfl ?_
        refine AB.gu 6 rfl (by decide +kernel) rfl rfl rfl (Dtu.ix (i := (j + 1)) Try.underlying38 Try.sizeOf22 (Sl.osl 0 rfl) (lk rfl) (lk rfl) (by omega) (by omega)) rfl ?_
        refine AB.gd 7 rfl (by decide +kernel) rfl rfl rfl rfl (Det.ld Try.isAgg22 (lk rfl) (Rd.sl (Sl.osl 0 rfl) (gm (by omega)))) rfl ?_
        refine AB.gu 8 rfl (by decide +kernel) rfl rfl rfl (Dtu.mv (lk rfl)) rfl ?_
        refine AB.gu 9 rfl (by decide +kernel) rfl rfl rfl (Dtu.mv (lk rfl)) rfl ?_
        refine AB.gu 10 rfl (by decide +kernel) rfl rfl rfl (Dtu.sub (lk rfl) (lk rfl) (w64 (by omega) (by omega))) rfl ?_
        refine AB.gu 11 rfl (by decide +kernel) rfl rfl rfl (Dtu.ix (i := (j + 1 - 1)) Try.underlying38 Try.sizeOf22 (Sl.osl 0 rfl) (lk rfl) (lk rfl) (by omega) (by omega)) rfl ?_
        refine AB.gd 12 rfl (by decide +kernel) rfl rfl rfl rfl (Det.ld Try.isAgg22 (lk rfl) (Rd.sl (Sl.osl 0 rfl) (gm (by omega)))) rfl ?_
        refine AB.gs 13 rfl (by decide +kernel) (by decide +kernel) rfl rfl rfl (Stp.call rfl Try.call89 (lks rfl) (fun E' le hat => less_ok E' _ _) ?_) rfl
        rintro _ _ ⟨rfl, rfl⟩
        refine AB.u 14 rfl (by decide +kernel) (Dtu.pickT (lk rfl) (lk rfl)) rfl ?_
        refine AB.done (by decide +kernel) ?_
        refine Then.next ?_
        refine Body.condP (lk rfl) (fun hy => absurd hy (by first | omega | assumption | decide)) (fun _ => ?_)
        refine Body.exit ?_
        refine Then.exit ?_
        refine Round.exit ?_
        refine Blk.here ?_
        refine Blk.norm ?_
        refine Then.next ?_
        refine Body.region ?_
        refine Ops.u (Dtu.mv (lk rfl)) rfl ?_
        refine Ops.u (Dtu.add (lk rfl) (lk rfl) (w64 (by omega) (by omega))) rfl ?_
        refine Ops.u (Dtu.asg (lk rfl)) rfl ?_
        refine Ops.nil ?_
        refine Round.goL [0] (k + 1, sifted p q x (j + 1)) rfl ⟨rfl, trivial⟩ rfl rfl ⟨by dsimp only; omega, (hsp (j + 1)).trans hp, by dsimp only; rw [sifted_take hpl (by omega)]; exact hen (j + 1) hd (take_le hs (by omega) (by omega))⟩ (by dsimp only; omega)
  · refine Body.seq ?_
    refine Body.seq ?_
    refine Body.region ?_
    refine Ops.u (Dtu.mv (lk rfl)) rfl ?_
    refine Ops.u (Dtu.mv (lk rfl)) rfl ?_
    refine Ops.u (Dtu.lss (lk rfl) (lk rfl)) rfl ?_
    refine Ops.nil ?_
    refine Then.next ?_
    refine Body.condP (lk rfl) (fun hy => absurd hy (by first | omega | assumption | decide)) (fun _ => ?_)
    refine Body.exit ?_
    refine Then.exit ?_
    refine Round.exit ?_
    refine Blk.here ?_
    exact ⟨.inl rfl, _, pk [0] rfl, ⟨zs, rfl, rfl, hp, by rw [List.take_of_length_le (by omega)] at hs; exact hs⟩⟩
theorem pdq_ok (E : Env) (v : Value) (xs : List Nat) (l : Int) (hn : xs.length ≤ 12) : Does Try.prog 65 #[v, .int .i64 0, .int .i64 (xs.length : Nat), .int .i64 l] E ([osl 22 1 v xs.length (xs.map u6)]) fun r H' => ∃ ys : List Nat, r = .tuple #[] ∧ H' = [osl 22 1 v xs.length (ys.map u6)] ∧ ys.Perm xs ∧ ys.Pairwise (· ≤ ·) := by
  refine Does.go _ _ Try.func65 rfl Try.ntmps65 rfl rfl ?_
  skip
  refine Body.seq ?_
  refine Body.region ?_
  refine Ops.u (Dtu.asg (lk rfl)) rfl ?_
  refine Ops.nil ?_
  refine Then.next ?_
  refine Body.seq ?_
  refine Body.region ?_
  refine Ops.u (Dtu.asg (lk rfl)) rfl ?_
  refine Ops.nil ?_
  refine Then.next ?_
  refine Body.block ?_
  refine Body.loopL (γ := Unit) [0, 1, 2, 3, 8, 9] rfl (fun g => []) (fun g => []) (fun _ => rfl) (fun _ _ => rfl) (fun g => True) (fun g => 0) (()) (trivial) trivial rfl ?_
  rintro g u _
  refine Body.block ?_
  refine Body.seq ?_
  refine Body.region ?_
  refine Ops.u (Dtu.mv (lk rfl)) rfl ?_
  refine Ops.u (Dtu.mv (lk rfl)) rfl ?_
  refine Ops.u (Dtu.sub (lk rfl) (lk rfl) (w64 (by omega) (by omega))) rfl ?_
  refine Ops.u (Dtu.asg (lk rfl)) rfl ?_
  refine Ops.nil ?_
  refine Then.next ?_
  refine Body.seq ?_
  refine Body.seq ?_
  refine Body.region ?_
  refine Ops.u (Dtu.mv (lk rfl)) rfl ?_
  refine Ops.u (Dtu.leq (lk rfl) (lk rfl)) rfl ?_
  refine Ops.nil ?_
  refine Then.next ?_
  refine Body.condP (lk rfl) (fun _ => ?_) (fun hn => absurd (by first | omega | assumption | decide) hn)
  refine Body.seq ?_
  refine Body.region ?_
  refine Ops.u (Dtu.mv (lk rfl)) rfl ?_
  refine Ops.u (Dtu.mv (lk rfl)) rfl ?_
  refine Ops.u (Dtu.mv (lk rfl)) rfl ?_
  refine Ops.s (Stp.callOwn [0] rfl rfl Try.call83 (lks rfl) (fun E' le hat => insSort_ok E' _ _) ?_) rfl
  rintro _ _ ⟨ys27, rfl, rfl, p27, s27⟩
  refine Ops.nil ?_
  refine Then.next ?_
  refine Body.ret ?_
  refine Then.ret ?_
  refine Blk.ret ?_
  refine Round.ret ?_
  refine Blk.ret ?_
  exact ⟨.inr rfl, _, pk [0] rfl, ⟨_, rfl, rfl, p27, s27⟩⟩
theorem len64_ok (E : Env) (x : Nat) (hx : x ≤ 12) : Does Try.prog 93 #[.int .u64 (x : Nat)] E ([]) fun r H' => ∃ n, r = .int .i64 n ∧ H' = [] := by
  refine Does.go _ _ Try.func93 rfl Try.ntmps93 rfl rfl ?_
  skip
  refine Body.seq ?_
  refine Body.region ?_
  refine Ops.u (Dtu.asg (lk rfl)) rfl ?_
  refine Ops.nil ?_
  refine Then.next ?_
  refine Body.seq ?_
  refine Body.seq ?_
  refine Body.region ?_
  refine Ops.u (Dtu.mv (lk rfl)) rfl ?_
  refine Ops.u (Dtu.geq (lk rfl) (lk rfl)) rfl ?_
  refine Ops.nil ?_
  refine Then.next ?_
  refine Body.condP (lk rfl) (fun hy => absurd hy (by first | omega | assumption | decide)) (fun _ => ?_)
  refine Body.skip ?_
  refine Then.next ?_
  refine Body.seq ?_
  refine Body.seq ?_
  refine Body.region ?_
  refine Ops.u (Dtu.mv (lk rfl)) rfl ?_
  refine Ops.u (Dtu.geq (lk rfl) (lk rfl)) rfl ?_
  refine Ops.nil ?_
  refine Then.next ?_
  refine Body.condP (lk rfl) (fun hy => absurd hy (by first | omega | assumption | decide)) (fun _ => ?_)
  refine Body.skip ?_
  refine Then.next ?_
  refine Body.seq ?_
  refine Body.seq ?_
  refine Body.region ?_
  refine Ops.u (Dtu.mv (lk rfl)) rfl ?_
  refine Ops.u (Dtu.geq (lk rfl) (lk rfl)) rfl ?_
  refine Ops.nil ?_
  refine Then.next ?_
  refine Body.condP (lk rfl) (fun hy => absurd hy (by first | omega | assumption | decide)) (fun _ => ?_)
  refine Body.skip ?_
  refine Then.next ?_
  refine Body.seq ?_
  refine Body.region ?_
  refine Ops.u (Dtu.mv (lk rfl)) rfl ?_
  refine Ops.u (Dtu.mv (lk rfl)) rfl ?_
  refine Ops.u (Dtu.cvt Try.underlying22 Try.underlying5 (lk rfl) (wu8 (by omega) (by omega))) rfl ?_
  refine Ops.u (Dtu.ixStr (x) Try.underlying9 (lk rfl) (lk rfl) (by omega) (by first | omega | exact Nat.lt_of_lt_of_le (m := 256) (by omega) (by decide +kernel))) rfl ?_
  refine Ops.u (Dtu.cvt Try.underlying5 Try.underlying3 (lk rfl) rfl) rfl ?_
  refine Ops.u (Dtu.add (lk rfl) (lk rfl) rfl) rfl ?_
  refine Ops.u (Dtu.asg (lk rfl)) rfl ?_
  refine Ops.nil ?_
  refine Then.next ?_
  refine Body.ret ?_
  exact ⟨.inr rfl, _, pk [] rfl, ⟨_, rfl, rfl⟩⟩
theorem len_ok (E : Env) (x : Nat) (hx : x ≤ 12) : Does Try.prog 66 #[.int .u64 (x : Nat)] E ([]) fun r H' => ∃ n, r = .int .i64 n ∧ H' = [] := by
  refine Does.go _ _ Try.func66 rfl Try.ntmps66 rfl rfl ?_
  skip
  refine Body.seq ?_
  refine Body.region ?_
  refine Ops.u (Dtu.asg (lk rfl)) rfl ?_
  refine Ops.nil ?_
  refine Then.next ?_
  refine Body.seq ?_
  refine Body.condF (lk rfl) ?_
  refine Body.skip ?_
  refine Then.next ?_
  refine Body.seq ?_
  refine Body.region ?_
  refine Ops.u (Dtu.mv (lk rfl)) rfl ?_
  refine Ops.s (Stp.call rfl Try.call93 (lks rfl) (fun E' le hat => len64_ok E' _ (by first | with_reducible assumption | omega | assumption)) ?_) rfl
  rintro _ _ ⟨n7, rfl, rfl⟩
  refine Ops.u (Dtu.asg (lk rfl)) rfl ?_
  refine Ops.nil ?_
  refine Then.next ?_
  refine Body.ret ?_
  exact ⟨.inr rfl, _, pk [] rfl, ⟨_, rfl, rfl⟩⟩
theorem sort_ok (E : Env) (v : Value) (xs : List Nat) (hn : xs.length ≤ 12) : Does Try.prog 44 #[v] E ([osl 22 1 v xs.length (xs.map u6)]) fun r H' => ∃ ys : List Nat, r = .tuple #[] ∧ H' = [osl 22 1 v xs.length (ys.map u6)] ∧ ys.Perm xs ∧ ys.Pairwise (· ≤ ·) := by
  refine Does.pure (fun w s => (Sl.osl 0 rfl).len w s) fun hlen => ?_
  obtain ⟨_, hm⟩ := hlen
  refine Does.go _ _ Try.func44 rfl Try.ntmps44 rfl rfl ?_
  skip
  refine Body.seq ?_
  refine Body.region ?_
  refine Ops.u (Dtu.mv (lk rfl)) rfl ?_
  refine Ops.u (Dtu.lenS Try.underlying38 (Sl.osl 0 rfl) (lk rfl)) rfl ?_
  refine Ops.u (Dtu.asg (lk rfl)) rfl ?_
  refine Ops.nil ?_
  refine Then.next ?_
  refine Body.region ?_
  refine Ops.u (Dtu.mv (lk rfl)) rfl ?_
  refine Ops.u (Dtu.mv (lk rfl)) rfl ?_
  refine Ops.u (Dtu.mv (lk rfl)) rfl ?_
  refine Ops.u (Dtu.cvt Try.underlying3 Try.underlying122 (lk rfl) (wu64 (by omega) (by omega))) rfl ?_
  refine Ops.s (Stp.call rfl Try.call66 (lks rfl) (fun E' le hat => len_ok E' _ (by first | with_reducible assumption | omega | assumption)) ?_) rfl
  rintro _ _ ⟨n9, rfl, rfl⟩
  refine Ops.s (Stp.callOwn [0] rfl rfl Try.call65 (lks rfl) (fun E' le hat => pdq_ok E' _ _ _ (by first | with_reducible assumption | omega | assumption)) ?_) rfl
  rintro _ _ ⟨ys10, rfl, rfl, p10, s10⟩
  refine Ops.nil ?_
  exact ⟨.inl rfl, _, pk [0] rfl, ⟨_, rfl, rfl, p10, s10⟩⟩
end Go.Proofs.Ytagcpamchgpgiaa
end
section
/- Parts of frames: which may be; frames that are cut and put together. -/
namespace Go.Proofs.Ytagcpamchgpgiaa
set_option maxRecDepth 100000
set_option maxHeartbeats 4000000
set_option linter.unusedVariables false
set_option linter.unusedSimpArgs false
open Go.Sx
/-- slices.Clone at one type -/
theorem cloneB_ok (E : Env) (v : Value) (m : Nat) (vs : List Value) (h : Sl E [] 1 v m vs) (h1 : vs.all (·.oneCell') = true) (hb : m * 1 ≤ 140737488355328) : Does Try.prog 38 #[v] E [] fun r H' => H' = [osl 5 1 r m vs] ∧ IsSl r := by
  refine Does.go (args := [v]) _ _ Try.func38 rfl Try.ntmps38 rfl rfl ?_
  refine Body.seq ?_
  refine Body.region ?_
  refine Ops.u (Dtu.asg (lk rfl)) rfl ?_
  refine Ops.nil ?_
  refine Then.next ?_
  refine Body.seq ?_
  refine Body.seq ?_
  refine Body.region ?_
  refine Ops.u (Dtu.mv (lk rfl)) rfl ?_
  refine Ops.u (Dtu.nilS Try.underlying23 (Sl.up h) (lk rfl)) rfl ?_
  refine Ops.nil ?_
  refine Then.next ?_
  refine Body.cond (lk rfl) (fun c4 => ?_) (fun c4 => ?_)
  · refine Body.pure (h.nil0 c4) ?_
    rintro ⟨rfl, rfl⟩
    refine Body.seq ?_
    refine Body.region ?_
    refine Ops.u (Dtu.asg (lk rfl)) rfl ?_
    refine Ops.nil ?_
    refine Then.next ?_
    refine Body.ret ?_
    refine Then.ret ?_
    exact ⟨.inr rfl, _, fun w s => osl_nil (pk [] rfl w s), rfl, ⟨_, _, _, rfl⟩⟩
  · refine Body.pure h.len ?_
    rintro ⟨hl, hm⟩
    refine Body.skip ?_
    refine Then.next ?_
    refine Body.seq ?_
    refine Body.region ?_
    refine Ops.s (Stp.buildSlice0 Try.underlying23 ty5 (fun b5 => ?_)) rfl
    refine Ops.u (Dtu.mv (lk rfl)) rfl ?_
    refine Ops.s (Stp.appendNew Try.underlying23 ty5 rfl (lk rfl) (lk rfl) h.up h1 hb hm (fun v7 => ?_)) rfl
    refine Ops.pure (Sl.isSl (Sl.osl 0 rfl)) fun hsl => ?_
    refine Ops.u (Dtu.asg (lk rfl)) rfl ?_
    refine Ops.nil ?_
    refine Then.next ?_
    refine Body.ret ?_
    exact ⟨.inr rfl, _, pk [0] rfl, rfl, hsl⟩

/-- a part -/
structure Prt where
  id : Nat
  ix : Int
  ct : Int
  d : List Int
  s : Value
instance : Inhabited Prt := ⟨⟨0, 0, 0, [], .slice none 0 0⟩⟩
def Prt.enc (p : Prt) : List Value := [.int .u64 (p.id : Nat), .int .i64 p.ix, .int .i64 p.ct, p.s]
abbrev u8s (l : List Int) : List Value := l.map (.int .u8)
def Prt.At (E : Env) (p : Prt) : Prop := Sl E [] 1 p.s p.d.length (u8s p.d)
structure Prt.Ok (p : Prt) : Prop where
  i0 : 1 ≤ p.id
  i1 : p.id ≤ 4611686018427387903
  c0 : 1 ≤ p.ct
  c1 : p.ct ≤ 64
  x0 : 0 ≤ p.ix
  x1 : p.ix < p.ct
  d0 : p.d.length ≤ 480
  d1 : p.d.length = 0 → p.ct = 1
  d2 : p.d.length = 480 ∨ p.ix = p.ct - 1
instance (p : Prt) : Decidable p.Ok := decidable_of_iff (1 ≤ p.id ∧ p.id ≤ 4611686018427387903 ∧ 1 ≤ p.ct ∧ p.ct ≤ 64 ∧ 0 ≤ p.ix ∧ p.ix < p.ct ∧ p.d.length ≤ 480 ∧ (p.d.length = 0 → p.ct = 1) ∧ (p.d.length = 480 ∨ p.ix = p.ct - 1))
  ⟨fun ⟨a, b, c, d, e, f, g, h, i⟩ => ⟨a, b, c, d, e, f, g, h, i⟩, fun h => ⟨h.i0, h.i1, h.c0, h.c1, h.x0, h.x1, h.d0, h.d1, h.d2⟩⟩
theorem Prt.ok_iff (p : Prt) : p.Ok ↔ (1 ≤ p.id ∧ p.id ≤ 4611686018427387903 ∧ 1 ≤ p.ct ∧ p.ct ≤ 64 ∧ 0 ≤ p.ix ∧ p.ix < p.ct ∧ p.d.length ≤ 480 ∧ (p.d.length = 0 → p.ct = 1) ∧ (p.d.length = 480 ∨ p.ix = p.ct - 1)) :=
  ⟨fun h => ⟨h.i0, h.i1, h.c0, h.c1, h.x0, h.x1, h.d0, h.d1, h.d2⟩, fun ⟨a, b, c, d, e, f, g, h, i⟩ => ⟨a, b, c, d, e, f, g, h, i⟩⟩
theorem isID_ok (E : Env) (x : Nat) : Does Try.prog 37 #[.int .u64 (x : Nat)] E ([]) fun r H' => r = .bool (decide (1 ≤ x ∧ x ≤ 4611686018427387903)) ∧ H' = [] := by
  refine Does.go _ _ Try.func37 rfl Try.ntmps37 rfl rfl ?_
  skip
  refine Body.seq ?_
  refine Body.region ?_
  refine Ops.u (Dtu.asg (lk rfl)) rfl ?_
  refine Ops.nil ?_
  refine Then.next ?_
  refine Body.seq ?_
  refine Body.region ?_
  refine Ops.u (Dtu.mv (lk rfl)) rfl ?_
  refine Ops.u (Dtu.geq (lk rfl) (lk rfl)) rfl ?_
  refine Ops.u (Dtu.mv (lk rfl)) rfl ?_
  refine Ops.decP 5 rfl (fun c5 => ?_) (fun c5 => ?_)
  · refine Ops.gu rfl rfl rfl (Dtu.mv (lk rfl)) rfl ?_
    refine Ops.gu rfl rfl rfl (Dtu.leq (lk rfl) (lk rfl)) rfl ?_
    refine Ops.u (Dtu.pickT (lk rfl) (lk rfl)) rfl ?_
    refine Ops.u (Dtu.asg (lk rfl)) rfl ?_
    refine Ops.nil ?_
    refine Then.next ?_
    refine Body.ret ?_
    exact ⟨.inr rfl, _, pk [] rfl, congrArg Value.bool (by rw [Bool.eq_iff_iff]; simp; omega), rfl⟩
  · refine Ops.gn rfl rfl rfl rfl rfl ?_
    refine Ops.gn rfl rfl rfl rfl rfl ?_
    refine Ops.u (Dtu.pickF (lk rfl) (lk rfl)) rfl ?_
    refine Ops.u (Dtu.asg (lk rfl)) rfl ?_
    refine Ops.nil ?_
    refine Then.next ?_
    refine Body.ret ?_
    exact ⟨.inr rfl, _, pk [] rfl, congrArg Value.bool (by rw [Bool.eq_iff_iff]; simp; omega), rfl⟩
theorem right_ok (E : Env) (p : Prt) (hd : p.At E) : Does Try.prog 40 #[.agg p.enc.toArray] E ([]) fun r H' => r = .bool (decide p.Ok) ∧ H' = [] := by
  unfold Prt.At at hd
  have hok := p.ok_iff
  refine Does.go _ _ Try.func40 rfl Try.ntmps40 rfl rfl ?_
  skip
  refine Body.seq ?_
  refine Body.region ?_
  refine Ops.s (Stp.box (lk rfl) rfl (fun b1 => ?_)) rfl
  refine Ops.u (Dtu.asg (lk rfl)) rfl ?_
  refine Ops.nil ?_
  refine Then.next ?_
  refine Body.seq ?_
  refine Body.region ?_
  refine Ops.u (Dtu.fld fa35_3 (lk rfl)) rfl ?_
  refine Ops.d (Det.ld Try.isAgg23 (lk rfl) (Rd.ow 0 rfl rfl)) rfl ?_
  refine Ops.u (Dtu.lenS Try.underlying23 (Sl.up hd) (lk rfl)) rfl ?_
  refine Ops.u (Dtu.asg (lk rfl)) rfl ?_
  refine Ops.nil ?_
  refine Then.next ?_
  refine Body.seq ?_
  refine Body.block ?_
  refine Body.seq ?_
  refine Body.region ?_
  refine Ops.u (Dtu.fld fa35_0 (lk rfl)) rfl ?_
  refine Ops.d (Det.ld Try.isAgg22 (lk rfl) (Rd.ow 0 rfl rfl)) rfl ?_
  refine Ops.s (Stp.call rfl Try.call37 (lks rfl) (fun E' le hat => isID_ok E' _) ?_) rfl
  rintro _ _ ⟨rfl, rfl⟩
  refine Ops.u (Dtu.notP (lk rfl)) rfl ?_
  refine Ops.u (Dtu.mv (lk rfl)) rfl ?_
  refine Ops.decP 12 rfl (fun c12 => ?_) (fun c12 => ?_)
  · refine Ops.gn rfl rfl rfl rfl rfl ?_
    refine Ops.gn rfl rfl rfl rfl rfl ?_
    refine Ops.gn rfl rfl rfl rfl rfl ?_
    refine Ops.u (Dtu.pickT (lk rfl) (lk rfl)) rfl ?_
    refine Ops.u (Dtu.mv (lk rfl)) rfl ?_
    refine Ops.gn rfl rfl rfl rfl rfl ?_
    refine Ops.gn rfl rfl rfl rfl rfl ?_
    refine Ops.gn rfl rfl rfl rfl rfl ?_
    refine Ops.u (Dtu.pickT (lk rfl) (lk rfl)) rfl ?_
    refine Ops.u (Dtu.mv (lk rfl)) rfl ?_
    refine Ops.gn rfl rfl rfl rfl rfl ?_
    refine Ops.gn rfl rfl rfl rfl rfl ?_
    refine Ops.gn rfl rfl rfl rfl rfl ?_
    refine Ops.u (Dtu.pickT (lk rfl) (lk rfl)) rfl ?_
    refine Ops.u (Dtu.mv (lk rfl)) rfl ?_
    refine Ops.gn rfl rfl rfl rfl rfl ?_
    refine Ops.gn rfl rfl rfl rfl rfl ?_
    refine Ops.gn rfl rfl rfl rfl rfl ?_
    refine Ops.gn rfl rfl rfl rfl rfl ?_
    refine Ops.gn rfl rfl rfl rfl rfl ?_
    refine Ops.u (Dtu.pickT (lk rfl) (lk rfl)) rfl ?_
    refine Ops.u (Dtu.mv (lk rfl)) rfl ?_
    refine Ops.gn rfl rfl rfl rfl rfl ?_
    refine Ops.gn rfl rfl rfl rfl rfl ?_
    refine Ops.u (Dtu.pickT (lk rfl) (lk rfl)) rfl ?_
    refine Ops.u (Dtu.asg (lk rfl)) rfl ?_
    refine Ops.nil ?_
    refine Then.next ?_
    refine Body.condT (lk rfl) ?_
    refine Body.seq ?_
    refine Body.region ?_
    refine Ops.u (Dtu.asg (lk rfl)) rfl ?_
    refine Ops.nil ?_
    refine Then.next ?_
    refine Body.ret ?_
    refine Blk.ret ?_
    refine Then.ret ?_
    exact ⟨.inr rfl, _, pk [] rfl, congrArg Value.bool (decide_eq_false fun h => by have := hok.1 h; omega).symm, rfl⟩
  · refine Ops.gu rfl rfl rfl (Dtu.fld fa35_2 (lk rfl)) rfl ?_
    refine Ops.gd rfl rfl rfl (Det.ld Try.isAgg3 (lk rfl) (Rd.ow 0 rfl rfl)) rfl ?_
    refine Ops.gu rfl rfl rfl (Dtu.lss (lk rfl) (lk rfl)) rfl ?_
    refine Ops.u (Dtu.pickF (lk rfl) (lk rfl)) rfl ?_
    refine Ops.u (Dtu.mv (lk rfl)) rfl ?_
    refine Ops.decP 17 rfl (fun c17 => ?_) (fun c17 => ?_)
    · refine Ops.gn rfl rfl rfl rfl rfl ?_
      refine Ops.gn rfl rfl rfl rfl rfl ?_
      refine Ops.gn rfl rfl rfl rfl rfl ?_
      refine Ops.u (Dtu.pickT (lk rfl) (lk rfl)) rfl ?_
      refine Ops.u (Dtu.mv (lk rfl)) rfl ?_
      refine Ops.gn rfl rfl rfl rfl rfl ?_
      refine Ops.gn rfl rfl rfl rfl rfl ?_
      refine Ops.gn rfl rfl rfl rfl rfl ?_
      refine Ops.u (Dtu.pickT (lk rfl) (lk rfl)) rfl ?_
      refine Ops.u (Dtu.mv (lk rfl)) rfl ?_
      refine Ops.gn rfl rfl rfl rfl rfl ?_
      refine Ops.gn rfl rfl rfl rfl rfl ?_
      refine Ops.gn rfl rfl rfl rfl rfl ?_
      refine Ops.gn rfl rfl rfl rfl rfl ?_
      refine Ops.gn rfl rfl rfl rfl rfl ?_
      refine Ops.u (Dtu.pickT (lk rfl) (lk rfl)) rfl ?_
      refine Ops.u (Dtu.mv (lk rfl)) rfl ?_
      refine Ops.gn rfl rfl rfl rfl rfl ?_
      refine Ops.gn rfl rfl rfl rfl rfl ?_
      refine Ops.u (Dtu.pickT (lk rfl) (lk rfl)) rfl ?_
      refine Ops.u (Dtu.asg (lk rfl)) rfl ?_
      refine Ops.nil ?_
      refine Then.next ?_
      refine Body.condT (lk rfl) ?_
      refine Body.seq ?_
      refine Body.region ?_
      refine Ops.u (Dtu.asg (lk rfl)) rfl ?_
      refine Ops.nil ?_
      refine Then.next ?_
      refine Body.ret ?_
      refine Blk.ret ?_
      refine Then.ret ?_
      exact ⟨.inr rfl, _, pk [] rfl, congrArg Value.bool (decide_eq_false fun h => by have := hok.1 h; omega).symm, rfl⟩
    · refine Ops.gu rfl rfl rfl (Dtu.fld fa35_2 (lk rfl)) rfl ?_
      refine Ops.gd rfl rfl rfl (Det.ld Try.isAgg3 (lk rfl) (Rd.ow 0 rfl rfl)) rfl ?_
      refine Ops.gu rfl rfl rfl (Dtu.gtr (lk rfl) (lk rfl)) rfl ?_
      refine Ops.u (Dtu.pickF (lk rfl) (lk rfl)) rfl ?_
      refine Ops.u (Dtu.mv (lk rfl)) rfl ?_
      refine Ops.decP 22 rfl (fun c22 => ?_) (fun c22 => ?_)
      · refine Ops.gn rfl rfl rfl rfl rfl ?_
        refine Ops.gn rfl rfl rfl rfl rfl ?_
        refine Ops.gn rfl rfl rfl rfl rfl ?_
        refine Ops.u (Dtu.pickT (lk rfl) (lk rfl)) rfl ?_
        refine Ops.u (Dtu.mv (lk rfl)) rfl ?_
        refine Ops.gn rfl rfl rfl rfl rfl ?_
        refine Ops.gn rfl rfl rfl rfl rfl ?_
        refine Ops.gn rfl rfl rfl rfl rfl ?_
        refine Ops.gn rfl rfl rfl rfl rfl ?_
        refine Ops.gn rfl rfl rfl rfl rfl ?_
        refine Ops.u (Dtu.pickT (lk rfl) (lk rfl)) rfl ?_
        refine Ops.u (Dtu.mv (lk rfl)) rfl ?_
        refine Ops.gn rfl rfl rfl rfl rfl ?_
        refine Ops.gn rfl rfl rfl rfl rfl ?_
        refine Ops.u (Dtu.pickT (lk rfl) (lk rfl)) rfl ?_
        refine Ops.u (Dtu.asg (lk rfl)) rfl ?_
        refine Ops.nil ?_
        refine Then.next ?_
        refine Body.condT (lk rfl) ?_
        refine Body.seq ?_
        refine Body.region ?_
        refine Ops.u (Dtu.asg (lk rfl)) rfl ?_
        refine Ops.nil ?_
        refine Then.next ?_
        refine Body.ret ?_
        refine Blk.ret ?_
        refine Then.ret ?_
        exact ⟨.inr rfl, _, pk [] rfl, congrArg Value.bool (decide_eq_false fun h => by have := hok.1 h; omega).symm, rfl⟩
      · refine Ops.gu rfl rfl rfl (Dtu.fld fa35_1 (lk rfl)) rfl ?_
        refine Ops.gd rfl rfl rfl (Det.ld Try.isAgg3 (lk rfl) (Rd.ow 0 rfl rfl)) rfl ?_
        refine Ops.gu rfl rfl rfl (Dtu.lss (lk rfl) (lk rfl)) rfl ?_
        refine Ops.u (Dtu.pickF (lk rfl) (lk rfl)) rfl ?_
        refine Ops.u (Dtu.mv (lk rfl)) rfl ?_
        refine Ops.decP 27 rfl (fun c27 => ?_) (fun c27 => ?_)
        · refine Ops.gn rfl rfl rfl rfl rfl ?_
          refine Ops.gn rfl rfl rfl rfl rfl ?_
          refine Ops.gn rfl rfl rfl rfl rfl ?_
          refine Ops.gn rfl rfl rfl rfl rfl ?_
          refine Ops.gn rfl rfl rfl rfl rfl ?_
          refine Ops.u (Dtu.pickT (lk rfl) (lk rfl)) rfl ?_
          refine Ops.u (Dtu.mv (lk rfl)) rfl ?_
          refine Ops.gn rfl rfl rfl rfl rfl ?_
          refine Ops.gn rfl rfl rfl rfl rfl ?_
          refine Ops.u (Dtu.pickT (lk rfl) (lk rfl)) rfl ?_
          refine Ops.u (Dtu.asg (lk rfl)) rfl ?_
          refine Ops.nil ?_
          refine Then.next ?_
          refine Body.condT (lk rfl) ?_
          refine Body.seq ?_
          refine Body.region ?_
          refine Ops.u (Dtu.asg (lk rfl)) rfl ?_
          refine Ops.nil ?_
          refine Then.next ?_
          refine Body.ret ?_
          refine Blk.ret ?_
          refine Then.ret ?_
          exact ⟨.inr rfl, _, pk [] rfl, congrArg Value.bool (decide_eq_false fun h => by have := hok.1 h; omega).symm, rfl⟩
        · refine Ops.gu rfl rfl rfl (Dtu.fld fa35_1 (lk rfl)) rfl ?_
          refine Ops.gd rfl rfl rfl (Det.ld Try.isAgg3 (lk rfl) (Rd.ow 0 rfl rfl)) rfl ?_
          refine Ops.gu rfl rfl rfl (Dtu.fld fa35_2 (lk rfl)) rfl ?_
          refine Ops.gd rfl rfl rfl (Det.ld Try.isAgg3 (lk rfl) (Rd.ow 0 rfl rfl)) rfl ?_
          refine Ops.gu rfl rfl rfl (Dtu.geq (lk rfl) (lk rfl)) rfl ?_
          refine Ops.u (Dtu.pickF (lk rfl) (lk rfl)) rfl ?_
          refine Ops.u (Dtu.mv (lk rfl)) rfl ?_
          refine Ops.decP 34 rfl (fun c34 => ?_) (fun c34 => ?_)
          · refine Ops.gn rfl rfl rfl rfl rfl ?_
            refine Ops.gn rfl rfl rfl rfl rfl ?_
            refine Ops.u (Dtu.pickT (lk rfl) (lk rfl)) rfl ?_
            refine Ops.u (Dtu.asg (lk rfl)) rfl ?_
            refine Ops.nil ?_
            refine Then.next ?_
            refine Body.condT (lk rfl) ?_
            refine Body.seq ?_
            refine Body.region ?_
            refine Ops.u (Dtu.asg (lk rfl)) rfl ?_
            refine Ops.nil ?_
            refine Then.next ?_
            refine Body.ret ?_
            refine Blk.ret ?_
            refine Then.ret ?_
            exact ⟨.inr rfl, _, pk [] rfl, congrArg Value.bool (decide_eq_false fun h => by have := hok.1 h; omega).symm, rfl⟩
          · refine Ops.gu rfl rfl rfl (Dtu.mv (lk rfl)) rfl ?_
            refine Ops.gu rfl rfl rfl (Dtu.gtr (lk rfl) (lk rfl)) rfl ?_
            refine Ops.u (Dtu.pickF (lk rfl) (lk rfl)) rfl ?_
            refine Ops.u (Dtu.asg (lk rfl)) rfl ?_
            refine Ops.nil ?_
            refine Then.next ?_
            refine Body.condP (lk rfl) (fun c7 => ?_) (fun c7 => ?_)
            · refine Body.seq ?_
              refine Body.region ?_
              refine Ops.u (Dtu.asg (lk rfl)) rfl ?_
              refine Ops.nil ?_
              refine Then.next ?_
              refine Body.ret ?_
              refine Blk.ret ?_
              refine Then.ret ?_
              exact ⟨.inr rfl, _, pk [] rfl, congrArg Value.bool (decide_eq_false fun h => by have := hok.1 h; omega).symm, rfl⟩
            · refine Body.seq ?_
              refine Body.region ?_
              refine Ops.u (Dtu.mv (lk rfl)) rfl ?_
              refine Ops.u (Dtu.eql (lk rfl) (lk rfl)) rfl ?_
              refine Ops.u (Dtu.asg (lk rfl)) rfl ?_
              refine Ops.nil ?_
              refine Then.next ?_
              refine Body.condP (lk rfl) (fun c38 => ?_) (fun c38 => ?_)
              · refine Body.seq ?_
                refine Body.region ?_
                refine Ops.u (Dtu.fld fa35_2 (lk rfl)) rfl ?_
                refine Ops.d (Det.ld Try.isAgg3 (lk rfl) (Rd.ow 0 rfl rfl)) rfl ?_
                refine Ops.u (Dtu.eql (lk rfl) (lk rfl)) rfl ?_
                refine Ops.u (Dtu.asg (lk rfl)) rfl ?_
                refine Ops.nil ?_
                refine Then.next ?_
                refine Body.ret ?_
                refine Blk.ret ?_
                refine Then.ret ?_
                exact ⟨.inr rfl, _, pk [] rfl, congrArg Value.bool (by rw [decide_eq_decide, hok]; omega), rfl⟩
              · refine Body.skip ?_
                refine Blk.norm ?_
                refine Then.next ?_
                refine Body.seq ?_
                refine Body.region ?_
                refine Ops.u (Dtu.mv (lk rfl)) rfl ?_
                refine Ops.u (Dtu.eql (lk rfl) (lk rfl)) rfl ?_
                refine Ops.u (Dtu.mv (lk rfl)) rfl ?_
                refine Ops.decP 46 rfl (fun c46 => ?_) (fun c46 => ?_)
                · refine Ops.gn rfl rfl rfl rfl rfl ?_
                  refine Ops.gn rfl rfl rfl rfl rfl ?_
                  refine Ops.gn rfl rfl rfl rfl rfl ?_
                  refine Ops.gn rfl rfl rfl rfl rfl ?_
                  refine Ops.gn rfl rfl rfl rfl rfl ?_
                  refine Ops.gn rfl rfl rfl rfl rfl ?_
                  refine Ops.u (Dtu.pickT (lk rfl) (lk rfl)) rfl ?_
                  refine Ops.u (Dtu.asg (lk rfl)) rfl ?_
                  refine Ops.nil ?_
                  refine Then.next ?_
                  refine Body.ret ?_
                  exact ⟨.inr rfl, _, pk [] rfl, congrArg Value.bool (decide_eq_true (hok.2 (by omega))).symm, rfl⟩
                · refine Ops.gu rfl rfl rfl (Dtu.fld fa35_1 (lk rfl)) rfl ?_
                  refine Ops.gd rfl rfl rfl (Det.ld Try.isAgg3 (lk rfl) (Rd.ow 0 rfl rfl)) rfl ?_
                  refine Ops.gu rfl rfl rfl (Dtu.fld fa35_2 (lk rfl)) rfl ?_
                  refine Ops.gd rfl rfl rfl (Det.ld Try.isAgg3 (lk rfl) (Rd.ow 0 rfl rfl)) rfl ?_
                  refine Ops.gu rfl rfl rfl (Dtu.sub (lk rfl) (lk rfl) (w64 (by omega) (by omega))) rfl ?_
                  refine Ops.gu rfl rfl rfl (Dtu.eql (lk rfl) (lk rfl)) rfl ?_
                  refine Ops.u (Dtu.pickF (lk rfl) (lk rfl)) rfl ?_
                  refine Ops.u (Dtu.asg (lk rfl)) rfl ?_
                  refine Ops.nil ?_
                  refine Then.next ?_
                  refine Body.ret ?_
                  exact ⟨.inr rfl, _, pk [] rfl, congrArg Value.bool (by rw [decide_eq_decide, hok]; omega), rfl⟩
/-- parts that are a frame -/
def JoinOk (l : List Prt) : Prop := ∀ k, k < l.length → l[k]!.Ok ∧ l[k]!.id = l[0]!.id ∧ l[k]!.ct = (l.length : Int) ∧ l[k]!.ix = (k : Int)
theorem Prt.one {p : Prt} {a : Option Addr} {m c : Nat} (h : p.s = .slice a m c) : ([.int .u64 (p.id : Nat), .int .i64 p.ix, .int .i64 p.ct, p.s] : List Value).all (·.oneCell') = true := by rw [h]; rfl
theorem Prt.At.mono {E E' : Env} {p : Prt} (h : p.At E) (le : E.Le E') : p.At E' := Sl.mono h le
theorem jcl_ok (E : Env) (l : List Prt) (k : Nat) (s : Value) (bi bl : Nat) (hl : Sl E [] 4 s l.length (l.flatMap Prt.enc)) (hd : l[k]!.At E) (hj : JoinOk l) (hk : k < l.length) : Does Try.prog 64 #[.agg l[k]!.enc.toArray, .pointer (some ⟨bi, 0, none⟩), .pointer (some ⟨bl, 0, none⟩)] E ([own bi [.int .i64 (k : Nat)] 3, own bl [s] 25]) fun r H' => r = .bool false ∧ H' = [own bi [.int .i64 (k + 1 : Nat)] 3, own bl [s] 25] := by
  refine Does.pure hl.up.len fun hlen => ?_
  obtain ⟨h1, h2, h3, h4⟩ := hj k hk
  have h5 : ¬ ¬ l[k]!.Ok := fun h => h h1
  refine Does.go _ _ Try.func64 rfl Try.ntmps64 rfl rfl ?_
  skip
  have h6 : ¬ l[k]!.ix ≠ (k : Int) + 1 - 1 := by omega
  refine Body.seq ?_
  refine Body.region ?_
  refine Ops.s (Stp.box (lk rfl) rfl (fun b3 => ?_)) rfl
  refine Ops.u (Dtu.asg (lk rfl)) rfl ?_
  refine Ops.nil ?_
  refine Then.next ?_
  refine Body.seq ?_
  refine Body.region ?_
  refine Ops.d (Det.ld Try.isAgg3 (lk rfl) (Rd.ow 1 rfl rfl)) rfl ?_
  refine Ops.u (Dtu.add (lk rfl) (lk rfl) (w64 (by omega) (by omega))) rfl ?_
  refine Ops.e (Stp.store 1 Try.sizeOf3 (lk rfl) (lk rfl) rfl rfl rfl rfl rfl rfl rfl ?_)
  refine Ops.nil ?_
  refine Then.next ?_
  refine Body.seq ?_
  refine Body.draw mixed ?_
  refine AB.d 0 rfl (by decide +kernel) rfl (Det.lda Try.isAgg35 Try.sizeOf35 (lk rfl) (Rds.ow (m := 4) 0 rfl rfl) rfl) rfl ?_
  refine AB.s 1 rfl (by decide +kernel) (by decide +kernel) (Stp.call rfl Try.call40 (lks rfl) (fun E' le hat => right_ok E' l[k]! (hd.mono le)) ?_) rfl
  rintro _ _ ⟨rfl, rfl⟩
  refine AB.u 2 rfl (by decide +kernel) (Dtu.notP (lk rfl)) rfl ?_
  refine AB.u 3 rfl (by decide +kernel) (Dtu.mv (lk rfl)) rfl ?_
  refine AB.decP 10 rfl (fun hy => absurd hy (by first | omega | assumption | decide)) (fun _ => ?_)
  refine AB.gu 4 rfl (by decide +kernel) rfl rfl rfl (Dtu.fld fa35_0 (lk rfl)) rfl ?_
  refine AB.gd 5 rfl (by decide +kernel) rfl rfl rfl rfl (Det.ld Try.isAgg22 (lk rfl) (Rd.ow 0 rfl rfl)) rfl ?_
  refine AB.gd 6 rfl (by decide +kernel) rfl rfl rfl rfl (Det.ld Try.isAgg25 (lk rfl) (Rd.ow 2 rfl rfl)) rfl ?_
  refine AB.gu 7 rfl (by decide +kernel) rfl rfl rfl (Dtu.ix (i := 0) Try.underlying25 Try.sizeOf35 (Sl.up hl) (lk rfl) (lk rfl) (by omega) (by omega)) rfl ?_
  refine AB.gu 8 rfl (by decide +kernel) rfl rfl rfl (Dtu.fld fa35_0 (lk rfl)) rfl ?_
  refine AB.gd 9 rfl (by decide +kernel) rfl rfl rfl rfl (Det.ld Try.isAgg22 (lk rfl) (Rd.sl2 (Sl.up hl) (gfe (sz := 4) (fun _ => rfl) (by omega) rfl))) rfl ?_
  refine AB.gu 10 rfl (by decide +kernel) rfl rfl rfl (Dtu.neq (lk rfl) (lk rfl)) rfl ?_
  refine AB.u 11 rfl (by decide +kernel) (Dtu.pickF (lk rfl) (lk rfl)) rfl ?_
  refine AB.u 12 rfl (by decide +kernel) (Dtu.mv (lk rfl)) rfl ?_
  refine AB.decP 19 rfl (fun hy => absurd hy (by first | omega | assumption | decide)) (fun _ => ?_)
  refine AB.gu 13 rfl (by decide +kernel) rfl rfl rfl (Dtu.fld fa35_2 (lk rfl)) rfl ?_
  refine AB.gd 14 rfl (by decide +kernel) rfl rfl rfl rfl (Det.ld Try.isAgg3 (lk rfl) (Rd.ow 0 rfl rfl)) rfl ?_
  refine AB.gd 15 rfl (by decide +kernel) rfl rfl rfl rfl (Det.ld Try.isAgg25 (lk rfl) (Rd.ow 2 rfl rfl)) rfl ?_
  refine AB.gu 16 rfl (by decide +kernel) rfl rfl rfl (Dtu.lenS Try.underlying25 (Sl.up hl) (lk rfl)) rfl ?_
  refine AB.gu 17 rfl (by decide +kernel) rfl rfl rfl (Dtu.neq (lk rfl) (lk rfl)) rfl ?_
  refine AB.u 18 rfl (by decide +kernel) (Dtu.pickF (lk rfl) (lk rfl)) rfl ?_
  refine AB.u 19 rfl (by decide +kernel) (Dtu.mv (lk rfl)) rfl ?_
  refine AB.decP 26 rfl (fun hy => absurd hy (by first | omega | assumption | decide)) (fun _ => ?_)
  refine AB.gu 20 rfl (by decide +kernel) rfl rfl rfl (Dtu.fld fa35_1 (lk rfl)) rfl ?_
  refine AB.gd 21 rfl (by decide +kernel) rfl rfl rfl rfl (Det.ld Try.isAgg3 (lk rfl) (Rd.ow 0 rfl rfl)) rfl ?_
  refine AB.gd 22 rfl (by decide +kernel) rfl rfl rfl rfl (Det.ld Try.isAgg3 (lk rfl) (Rd.ow 1 rfl rfl)) rfl ?_
  refine AB.gu 23 rfl (by decide +kernel) rfl rfl rfl (Dtu.sub (lk rfl) (lk rfl) (w64 (by omega) (by omega))) rfl ?_
  refine AB.gu 24 rfl (by decide +kernel) rfl rfl rfl (Dtu.neq (lk rfl) (lk rfl)) rfl ?_
  refine AB.u 25 rfl (by decide +kernel) (Dtu.pickF (lk rfl) (lk rfl)) rfl ?_
  refine AB.u 26 rfl (by decide +kernel) (Dtu.asg (lk rfl)) rfl ?_
  refine AB.done (by decide +kernel) ?_
  refine Then.next ?_
  refine Body.ret ?_
  exact ⟨.inr rfl, _, pk [1, 1] rfl, congrArg Value.bool (decide_eq_false h6), rfl⟩
theorem jix_ok (E : Env) (l : List Prt) (s : Value) (bi bl : Nat) (hl : Sl E [] 4 s l.length (l.flatMap Prt.enc)) (hd : ∀ p ∈ l, p.At E) (hj : JoinOk l) : Does Try.prog 82 #[s, .func (.func 64) #[] #[.pointer (some ⟨bi, 0, none⟩), .pointer (some ⟨bl, 0, none⟩)]] E ([own bi [.int .i64 0] 3, own bl [s] 25]) fun r H' => r = .int .i64 (-1) ∧ H' = [own bi [.int .i64 (l.length : Nat)] 3, own bl [s] 25] := by
  refine Does.pure hl.up.len fun hlen => ?_
  refine Does.go _ _ Try.func82 rfl Try.ntmps82 rfl rfl ?_
  skip
  refine Body.seq ?_
  refine Body.region ?_
  refine Ops.u (Dtu.asg (lk rfl)) rfl ?_
  refine Ops.nil ?_
  refine Then.next ?_
  refine Body.seq ?_
  refine Body.seq ?_
  refine Body.region ?_
  refine Ops.u (Dtu.mv (lk rfl)) rfl ?_
  refine Ops.u (Dtu.lenS Try.underlying25 (Sl.up hl) (lk rfl)) rfl ?_
  refine Ops.u (Dtu.mv (lk rfl)) rfl ?_
  refine Ops.nil ?_
  refine Then.next ?_
  refine Body.block ?_
  refine Body.loopL (γ := Nat) [0, 1, 4, 7] rfl (fun k => [(8, .int .i64 (k : Nat))]) (fun k => [(0, own bi [.int .i64 (k : Nat)] 3)]) (fun _ => rfl) (fun _ _ => rfl) (fun k => k ≤ l.length) (fun k => l.length - k) (0) (Nat.zero_le _) ⟨rfl, trivial⟩ rfl ?_
  rintro k u hk
  by_cases hlt : k < l.length
  · have hdk := hd l[k]! (by rw [getElem!_pos l k hlt]; exact List.getElem_mem _)
    refine Body.seq ?_
    refine Body.region ?_
    refine Ops.u (Dtu.lss (lk rfl) (lk rfl)) rfl ?_
    refine Ops.nil ?_
    refine Then.next ?_
    refine Body.seq ?_
    refine Body.condP (lk rfl) (fun _ => ?_) (fun hn => absurd (by first | omega | assumption | decide) hn)
    refine Body.skip ?_
    refine Then.next ?_
    refine Body.seq ?_
    refine Body.block ?_
    refine Body.seq ?_
    refine Body.region ?_
    refine Ops.u (Dtu.mv (lk rfl)) rfl ?_
    refine Ops.u (Dtu.asg (lk rfl)) rfl ?_
    refine Ops.nil ?_
    refine Then.next ?_
    refine Body.seq ?_
    refine Body.region ?_
    refine Ops.u (Dtu.mv (lk rfl)) rfl ?_
    refine Ops.u (Dtu.mv (lk rfl)) rfl ?_
    refine Ops.u (Dtu.mv (lk rfl)) rfl ?_
    refine Ops.u (Dtu.ix (i := (k)) Try.underlying25 Try.sizeOf35 (Sl.up hl) (lk rfl) (lk rfl) (by omega) (by omega)) rfl ?_
    refine Ops.d (Det.lda Try.isAgg35 Try.sizeOf35 (lk rfl) (Rds.sl (Sl.up hl) (gf (sz := 4) (fun _ => rfl) (by omega))) rfl) rfl ?_
    refine Ops.s (Stp.callClo [0, 0] rfl (cap := [.pointer (some ⟨bi, 0, none⟩), .pointer (some ⟨bl, 0, none⟩)]) (lk rfl) Try.call64 (lks rfl) (fun E' le hat => jcl_ok E' l k s bi bl (hl.mono le) (hdk.mono le) hj hlt) ?_) rfl
    rintro _ _ ⟨rfl, rfl⟩
    refine Ops.nil ?_
    refine Then.next ?_
    refine Body.condF (lk rfl) ?_
    refine Body.skip ?_
    refine Blk.norm ?_
    refine Then.next ?_
    refine Body.region ?_
    refine Ops.u (Dtu.add (lk rfl) (lk rfl) (w64 (by omega) (by omega))) rfl ?_
    refine Ops.u (Dtu.mv (lk rfl)) rfl ?_
    refine Ops.nil ?_
    refine Round.goL [0, 0] (k + 1) rfl ⟨rfl, trivial⟩ rfl rfl (by omega) (by omega)
  · have hk' : k = l.length := by omega
    subst hk'
    refine Body.seq ?_
    refine Body.region ?_
    refine Ops.u (Dtu.lss (lk rfl) (lk rfl)) rfl ?_
    refine Ops.nil ?_
    refine Then.next ?_
    refine Body.seq ?_
    refine Body.condP (lk rfl) (fun hy => absurd hy (by first | omega | assumption | decide)) (fun _ => ?_)
    refine Body.exit ?_
    refine Then.exit ?_
    refine Round.exit ?_
    refine Blk.here ?_
    refine Then.next ?_
    refine Body.seq ?_
    refine Body.region ?_
    refine Ops.u (Dtu.asg (lk rfl)) rfl ?_
    refine Ops.nil ?_
    refine Then.next ?_
    refine Body.ret ?_
    exact ⟨.inr rfl, _, pk [0, 0] rfl, rfl, rfl⟩
theorem jct_ok (E : Env) (l : List Prt) (s : Value) (bi bl : Nat) (hl : Sl E [] 4 s l.length (l.flatMap Prt.enc)) (hd : ∀ p ∈ l, p.At E) (hj : JoinOk l) : Does Try.prog 63 #[s, .func (.func 64) #[] #[.pointer (some ⟨bi, 0, none⟩), .pointer (some ⟨bl, 0, none⟩)]] E ([own bi [.int .i64 0] 3, own bl [s] 25]) fun r H' => r = .bool false ∧ H' = [own bi [.int .i64 (l.length : Nat)] 3, own bl [s] 25] := by
  refine Does.go _ _ Try.func63 rfl Try.ntmps63 rfl rfl ?_
  skip
  refine Body.seq ?_
  refine Body.region ?_
  refine Ops.u (Dtu.asg (lk rfl)) rfl ?_
  refine Ops.nil ?_
  refine Then.next ?_
  refine Body.seq ?_
  refine Body.region ?_
  refine Ops.u (Dtu.mv (lk rfl)) rfl ?_
  refine Ops.u (Dtu.mv (lk rfl)) rfl ?_
  refine Ops.s (Stp.callOwn [0, 0] rfl rfl Try.call82 (lks rfl) (fun E' le hat => jix_ok E' l s bi bl (hl.mono le) (fun p hp => (hd p hp).mono le) hj) ?_) rfl
  rintro _ _ ⟨rfl, rfl⟩
  refine Ops.u (Dtu.geq (lk rfl) (lk rfl)) rfl ?_
  refine Ops.u (Dtu.asg (lk rfl)) rfl ?_
  refine Ops.nil ?_
  refine Then.next ?_
  refine Body.ret ?_
  exact ⟨.inr rfl, _, pk [0, 0] rfl, rfl, rfl⟩
theorem fjoin_ok (E : Env) (l : List Prt) (s : Value) (hl : Sl E [] 4 s l.length (l.flatMap Prt.enc)) (hd : ∀ p ∈ l, p.At E) (hj : JoinOk l) (h0 : 0 < l.length) : Does Try.prog 42 #[s] E ([]) fun r H' => ∃ v, r = .tuple #[v, .int .i64 0] ∧ H' = [osl 5 1 v (l.flatMap Prt.d).length (u8s (l.flatMap Prt.d))] := by
  refine Does.pure hl.len fun hlen => ?_
  obtain ⟨hll, hlm⟩ := hlen
  have h64 : l.length ≤ 64 := by have h1 := hj 0 h0; have h2 := h1.1.c1; have h3 := h1.2.2.1; omega
  have hb : ∀ k, k ≤ l.length → ((l.take k).flatMap Prt.d).length ≤ 480 * k := fun k => by
    induction k with
    | zero => intro _; simp
    | succ k ih =>
      intro hk
      rw [List.take_succ_eq_append_getElem (by omega), List.flatMap_append, List.length_append]
      have h1 := ih (by omega)
      have h2 := (hj k (by omega)).1.d0
      rw [getElem!_pos l k (by omega)] at h2
      simp only [List.flatMap_cons, List.flatMap_nil, List.append_nil]
      omega
  refine Does.pure hl.shape fun hsh => ?_
  obtain ⟨sa, sc, rfl⟩ := hsh
  refine Does.go _ _ Try.func42 rfl Try.ntmps42 rfl rfl ?_
  skip
  refine Body.seq ?_
  refine Body.region ?_
  refine Ops.s (Stp.box (lk rfl) rfl (fun b1 => ?_)) rfl
  refine Ops.u (Dtu.asg (lk rfl)) rfl ?_
  refine Ops.u (Dtu.asg (lk rfl)) rfl ?_
  refine Ops.nil ?_
  refine Then.next ?_
  refine Body.seq ?_
  refine Body.seq ?_
  refine Body.region ?_
  refine Ops.d (Det.ld Try.isAgg25 (lk rfl) (Rd.ow 0 rfl rfl)) rfl ?_
  refine Ops.u (Dtu.lenS Try.underlying25 (Sl.up hl) (lk rfl)) rfl ?_
  refine Ops.u (Dtu.eql (lk rfl) (lk rfl)) rfl ?_
  refine Ops.nil ?_
  refine Then.next ?_
  refine Body.condP (lk rfl) (fun hy => absurd hy (by first | omega | assumption | decide)) (fun _ => ?_)
  refine Body.skip ?_
  refine Then.next ?_
  refine Body.seq ?_
  refine Body.region ?_
  refine Ops.s (Stp.alloc ty3 (fun b4 => ?_)) rfl
  refine Ops.e (Stp.store 0 Try.sizeOf3 (lk rfl) (lk rfl) rfl rfl rfl rfl rfl rfl rfl ?_)
  refine Ops.nil ?_
  refine Then.next ?_
  refine Body.seq ?_
  refine Body.region ?_
  refine Ops.d (Det.ld Try.isAgg25 (lk rfl) (Rd.ow 1 rfl rfl)) rfl ?_
  refine Ops.u (Dtu.mkfC (lks rfl)) rfl ?_
  refine Ops.s (Stp.callOwn [0, 0] rfl rfl Try.call63 (lks rfl) (fun E' le hat => jct_ok E' l _ _ _ (hl.mono le) (fun p hp => (hd p hp).mono le) hj) ?_) rfl
  rintro _ _ ⟨rfl, rfl⟩
  refine Ops.u (Dtu.asg (lk rfl)) rfl ?_
  refine Ops.nil ?_
  refine Then.next ?_
  refine Body.seq ?_
  refine Body.seq ?_
  refine Body.region ?_
  refine Ops.u (Dtu.mv (lk rfl)) rfl ?_
  refine Ops.nil ?_
  refine Then.next ?_
  refine Body.condF (lk rfl) ?_
  refine Body.skip ?_
  refine Then.next ?_
  refine Body.seq ?_
  refine Body.region ?_
  refine Ops.u (Dtu.asg (lk rfl)) rfl ?_
  refine Ops.nil ?_
  refine Then.next ?_
  refine Body.seq ?_
  refine Body.seq ?_
  refine Body.region ?_
  refine Ops.d (Det.ld Try.isAgg25 (lk rfl) (Rd.ow 1 rfl rfl)) rfl ?_
  refine Ops.u (Dtu.lenS Try.underlying25 (Sl.up hl) (lk rfl)) rfl ?_
  refine Ops.u (Dtu.mv (lk rfl)) rfl ?_
  refine Ops.nil ?_
  refine Then.next ?_
  refine Body.block ?_
  refine Body.addNil 5 1 none ?_
  refine Body.loopL (γ := Nat × Value) [0, 1, 2, 3, 4, 5, 16, 17] rfl (fun g => [(18, .int .i64 (g.1 : Nat)), (6, g.2)]) (fun g => [(0, osl 5 1 g.2 ((l.take g.1).flatMap Prt.d).length (u8s ((l.take g.1).flatMap Prt.d)))]) (fun _ => rfl) (fun _ _ => rfl) (fun g => g.1 ≤ l.length) (fun g => l.length - g.1) ((0, .slice none 0 0)) (Nat.zero_le _) ⟨rfl, rfl, trivial⟩ rfl ?_
  rintro ⟨k, v⟩ u hk
  dsimp only at hk ⊢
  by_cases hlt : k < l.length
  · have hdk : Sl E [] 1 l[k]!.s l[k]!.d.length (l[k]!.d.map (.int .u8)) := hd l[k]! (by rw [getElem!_pos l k hlt]; exact List.getElem_mem _)
    refine Body.pure hdk.up.shape fun hsh => ?_
    obtain ⟨a', c', hs'⟩ := hsh
    have hone := Prt.one hs'
    have hbk := hb k hk
    have hk9 := (hj k hlt).1.d0
    have hex : (l.take (k + 1)).flatMap Prt.d = (l.take k).flatMap Prt.d ++ l[k]!.d := by
      rw [List.take_succ_eq_append_getElem hlt, List.flatMap_append, getElem!_pos l k hlt]; simp
    refine Body.seq ?_
    refine Body.region ?_
    refine Ops.u (Dtu.lss (lk rfl) (lk rfl)) rfl ?_
    refine Ops.nil ?_
    refine Then.next ?_
    refine Body.seq ?_
    refine Body.condP (lk rfl) (fun _ => ?_) (fun hn => absurd (by first | omega | assumption | decide) hn)
    refine Body.skip ?_
    refine Then.next ?_
    refine Body.seq ?_
    refine Body.block ?_
    refine Body.seq ?_
    refine Body.region ?_
    refine Ops.u (Dtu.ix (i := (k)) Try.underlying25 Try.sizeOf35 (Sl.up hl) (lk rfl) (lk rfl) (by omega) (by omega)) rfl ?_
    refine Ops.d (Det.lda Try.isAgg35 Try.sizeOf35 (lk rfl) (Rds.sl (Sl.up hl) (gf (sz := 4) (fun _ => rfl) (by omega))) rfl) rfl ?_
    refine Ops.s (Stp.alloc ty35 (fun b8 => ?_)) rfl
    refine Ops.e (Stp.store 0 Try.sizeOf35 (lk rfl) (lk rfl) rfl rfl rfl rfl (by exact all_one (by assumption)) rfl rfl ?_)
    refine Ops.nil ?_
    refine Then.next ?_
    refine Body.region ?_
    refine Ops.u (Dtu.mv (lk rfl)) rfl ?_
    refine Ops.u (Dtu.fld fa35_3 (lk rfl)) rfl ?_
    refine Ops.d (Det.ld Try.isAgg23 (lk rfl) (Rd.ow 0 rfl rfl)) rfl ?_
    refine Ops.s (Stp.append 1 Try.underlying23 ty5 rfl rfl (lk rfl) (lk rfl) (Sl.up hdk) (by first | rfl | exact all_map (fun _ => rfl) _ | exact all_flat (fun _ => rfl) _) (by omega) (by omega) (fun v25 => ?_)) rfl
    refine Ops.u (Dtu.asg (lk rfl)) rfl ?_
    refine Ops.nil ?_
    refine Blk.norm ?_
    refine Then.next ?_
    refine Body.region ?_
    refine Ops.u (Dtu.add (lk rfl) (lk rfl) (w64 (by omega) (by omega))) rfl ?_
    refine Ops.u (Dtu.mv (lk rfl)) rfl ?_
    refine Ops.nil ?_
    refine Round.goL [1, 1, 1] (k + 1, v25) rfl ⟨rfl, rfl, trivial⟩ rfl (by (try dsimp only); rw [hex, List.length_append, u8s, u8s, List.map_append]; rfl) (by dsimp only; omega) (by dsimp only; omega)
  · have hk' : k = l.length := by omega
    subst hk'
    rw [List.take_length]
    refine Body.seq ?_
    refine Body.region ?_
    refine Ops.u (Dtu.lss (lk rfl) (lk rfl)) rfl ?_
    refine Ops.nil ?_
    refine Then.next ?_
    refine Body.seq ?_
    refine Body.condP (lk rfl) (fun hy => absurd hy (by first | omega | assumption | decide)) (fun _ => ?_)
    refine Body.exit ?_
    refine Then.exit ?_
    refine Round.exit ?_
    refine Blk.here ?_
    refine Then.next ?_
    refine Body.seq ?_
    refine Body.region ?_
    refine Ops.u (Dtu.mv (lk rfl)) rfl ?_
    refine Ops.u (Dtu.asg (lk rfl)) rfl ?_
    refine Ops.u (Dtu.asg (lk rfl)) rfl ?_
    refine Ops.nil ?_
    refine Then.next ?_
    refine Body.ret ?_
    exact ⟨.inr rfl, _, pk [0] rfl, ⟨_, rfl, rfl⟩⟩
def countS (n : Nat) : Nat := max 1 ((n + 479) / 480)
theorem count_ok (E : Env) (n : Nat) (hn : n ≤ 24000) : Does Try.prog 36 #[.int .i64 (n : Nat)] E ([]) fun r H' => r = .int .i64 (countS n : Nat) ∧ H' = [] := by
  have e : ((n : Int) + 480 - 1).tdiv 480 = (((n + 479) / 480 : Nat) : Int) := by
    rw [Int.tdiv_eq_ediv_of_nonneg (by omega)]; omega
  refine Does.go _ _ Try.func36 rfl Try.ntmps36 rfl rfl ?_
  skip
  refine Body.seq ?_
  refine Body.region ?_
  refine Ops.u (Dtu.asg (lk rfl)) rfl ?_
  refine Ops.nil ?_
  refine Then.next ?_
  refine Body.seq ?_
  refine Body.seq ?_
  refine Body.region ?_
  refine Ops.u (Dtu.mv (lk rfl)) rfl ?_
  refine Ops.u (Dtu.lss (lk rfl) (lk rfl)) rfl ?_
  refine Ops.u (Dtu.mv (lk rfl)) rfl ?_
  refine Ops.decP 5 rfl (fun hy => absurd hy (by first | omega | assumption | decide)) (fun _ => ?_)
  refine Ops.gu rfl rfl rfl (Dtu.mv (lk rfl)) rfl ?_
  refine Ops.gu rfl rfl rfl (Dtu.gtr (lk rfl) (lk rfl)) rfl ?_
  refine Ops.u (Dtu.pickF (lk rfl) (lk rfl)) rfl ?_
  refine Ops.nil ?_
  refine Then.next ?_
  refine Body.condP (lk rfl) (fun hy => absurd hy (by first | omega | assumption | decide)) (fun _ => ?_)
  refine Body.skip ?_
  refine Then.next ?_
  refine Body.seq ?_
  refine Body.region ?_
  refine Ops.u (Dtu.mv (lk rfl)) rfl ?_
  refine Ops.u (Dtu.add (lk rfl) (lk rfl) (w64 (by omega) (by omega))) rfl ?_
  refine Ops.u (Dtu.sub (lk rfl) (lk rfl) (w64 (by omega) (by omega))) rfl ?_
  refine Ops.u (Dtu.quo (lk rfl) (lk rfl) (by first | decide | omega) (w64 (by omega) (by omega))) rfl ?_
  refine Ops.u (Dtu.max (lk rfl) (lk rfl)) rfl ?_
  refine Ops.u (Dtu.asg (lk rfl)) rfl ?_
  refine Ops.nil ?_
  refine Then.next ?_
  refine Body.ret ?_
  exact ⟨.inr rfl, _, pk [] rfl, congrArg (Value.int .i64) (by rw [countS]; omega), rfl⟩
/-- the parts that a frame is cut into -/
structure SplitOf (id : Nat) (fr : List Int) (ps : List Prt) (L : List HProp) : Prop where
  len : ps.length = countS fr.length
  id : ∀ i, i < ps.length → ps[i]!.id = id
  ix : ∀ i, i < ps.length → ps[i]!.ix = (i : Int)
  ct : ∀ i, i < ps.length → ps[i]!.ct = (countS fr.length : Nat)
  d : ∀ i, i < ps.length → ps[i]!.d = (fr.drop (480 * i)).take 480
  own : ∀ i, i < ps.length → osl 5 1 ps[i]!.s ps[i]!.d.length (u8s ps[i]!.d) ∈ L
theorem split_ok (E : Env) (id : Nat) (s : Value) (fr : List Int) (hs : Sl E [] 1 s fr.length (u8s fr)) (hn : fr.length ≤ 24000) (h1 : 1 ≤ id) (h2 : id ≤ 4611686018427387903) : Does Try.prog 10 #[.int .u64 (id : Nat), s] E ([]) fun r H' => ∃ v ps L, r = .tuple #[v, .int .i64 0] ∧ H' = [osl 35 4 v ps.length (ps.flatMap Prt.enc), many L] ∧ SplitOf id fr ps L := by
  have hc1 : 1 ≤ countS fr.length := by unfold countS; omega
  have hc2 : countS fr.length ≤ 50 := by unfold countS; omega
  have hc3 : 480 * (countS fr.length - 1) ≤ fr.length := by unfold countS; omega
  have hc4 : fr.length ≤ 480 * countS fr.length := by unfold countS; omega
  have hid : 1 ≤ id ∧ id ≤ 4611686018427387903 := ⟨h1, h2⟩
  have hidn : ¬ ¬ (1 ≤ id ∧ id ≤ 4611686018427387903) := fun h => h hid
  refine Does.pure hs.capL fun hcap => ?_
  simp only [u8s] at hs
  refine Does.go _ _ Try.func10 rfl Try.ntmps10 rfl rfl ?_
  skip
  refine Body.seq ?_
  refine Body.region ?_
  refine Ops.u (Dtu.asg (lk rfl)) rfl ?_
  refine Ops.u (Dtu.asg (lk rfl)) rfl ?_
  refine Ops.nil ?_
  refine Then.next ?_
  refine Body.seq ?_
  refine Body.region ?_
  refine Ops.u (Dtu.mv (lk rfl)) rfl ?_
  refine Ops.u (Dtu.lenS Try.underlying23 (Sl.up hs) (lk rfl)) rfl ?_
  refine Ops.s (Stp.call rfl Try.call36 (lks rfl) (fun E' le hat => count_ok E' _ (by first | with_reducible assumption | omega | assumption)) ?_) rfl
  rintro _ _ ⟨rfl, rfl⟩
  refine Ops.u (Dtu.asg (lk rfl)) rfl ?_
  refine Ops.nil ?_
  refine Then.next ?_
  refine Body.seq ?_
  refine Body.block ?_
  refine Body.seq ?_
  refine Body.region ?_
  refine Ops.u (Dtu.mv (lk rfl)) rfl ?_
  refine Ops.u (Dtu.eql (lk rfl) (lk rfl)) rfl ?_
  refine Ops.u (Dtu.asg (lk rfl)) rfl ?_
  refine Ops.nil ?_
  refine Then.next ?_
  refine Body.condP (lk rfl) (fun hy => absurd hy (by first | omega | assumption | decide)) (fun _ => ?_)
  refine Body.seq ?_
  refine Body.region ?_
  refine Ops.u (Dtu.mv (lk rfl)) rfl ?_
  refine Ops.s (Stp.call rfl Try.call37 (lks rfl) (fun E' le hat => isID_ok E' _) ?_) rfl
  rintro _ _ ⟨rfl, rfl⟩
  refine Ops.u (Dtu.notP (lk rfl)) rfl ?_
  refine Ops.u (Dtu.asg (lk rfl)) rfl ?_
  refine Ops.nil ?_
  refine Then.next ?_
  refine Body.condP (lk rfl) (fun hy => absurd hy (by first | omega | assumption | decide)) (fun _ => ?_)
  refine Body.skip ?_
  refine Blk.norm ?_
  refine Then.next ?_
  refine Body.seq ?_
  refine Body.region ?_
  refine Ops.u (Dtu.asg (lk rfl)) rfl ?_
  refine Ops.nil ?_
  refine Then.next ?_
  refine Body.seq ?_
  refine Body.seq ?_
  refine Body.region ?_
  refine Ops.u (Dtu.mv (lk rfl)) rfl ?_
  refine Ops.u (Dtu.mv (lk rfl)) rfl ?_
  refine Ops.nil ?_
  refine Then.next ?_
  refine Body.block ?_
  refine Body.addNil 35 4 none ?_
  refine Body.conseq (fun w s => many_nil s) ?_
  generalize hcg : countS fr.length = c at *
  refine Body.loopL (γ := Nat × Value × List Prt × List HProp) [0, 1, 4, 5, 6, 21] rfl (fun g => [(22, .int .i64 (g.1 : Nat)), (7, g.2.1)]) (fun g => [(0, many g.2.2.2), (1, osl 35 4 g.2.1 g.2.2.1.length (g.2.2.1.flatMap Prt.enc))]) (fun _ => rfl) (fun _ _ => rfl) (fun g => g.1 ≤ c ∧ g.2.2.1.length = g.1 ∧ ∀ i, i < g.1 → g.2.2.1[i]!.id = id ∧ g.2.2.1[i]!.ix = (i : Int) ∧ g.2.2.1[i]!.ct = (c : Nat) ∧ g.2.2.1[i]!.d = (fr.drop (480 * i)).take 480 ∧ osl 5 1 g.2.2.1[i]!.s g.2.2.1[i]!.d.length (u8s g.2.2.1[i]!.d) ∈ g.2.2.2) (fun g => c - g.1) ((0, .slice none 0 0, [], [])) (⟨Nat.zero_le _, rfl, fun i hi => by dsimp only at hi; omega⟩) ⟨rfl, rfl, trivial⟩ rfl ?_
  rintro ⟨k, v, ps, L⟩ u ⟨hk, hl, hp⟩
  dsimp only at hk hl hp ⊢
  by_cases hlt : k < c
  · refine Body.seq ?_
    refine Body.region ?_
    refine Ops.u (Dtu.lss (lk rfl) (lk rfl)) rfl ?_
    refine Ops.nil ?_
    refine Then.next ?_
    refine Body.seq ?_
    refine Body.condP (lk rfl) (fun _ => ?_) (fun hn => absurd (by first | omega | assumption | decide) hn)
    refine Body.skip ?_
    refine Then.next ?_
    refine Body.seq ?_
    refine Body.block ?_
    refine Body.seq ?_
    refine Body.region ?_
    refine Ops.u (Dtu.mv (lk rfl)) rfl ?_
    refine Ops.u (Dtu.asg (lk rfl)) rfl ?_
    refine Ops.nil ?_
    refine Then.next ?_
    refine Body.seq ?_
    refine Body.region ?_
    refine Ops.u (Dtu.mv (lk rfl)) rfl ?_
    refine Ops.u (Dtu.mul (lk rfl) (lk rfl) (w64 (by omega) (by omega))) rfl ?_
    refine Ops.u (Dtu.mv (lk rfl)) rfl ?_
    refine Ops.u (Dtu.add (lk rfl) (lk rfl) (w64 (by omega) (by omega))) rfl ?_
    refine Ops.u (Dtu.mul (lk rfl) (lk rfl) (w64 (by omega) (by omega))) rfl ?_
    refine Ops.u (Dtu.mv (lk rfl)) rfl ?_
    refine Ops.u (Dtu.lenS Try.underlying23 (Sl.up hs) (lk rfl)) rfl ?_
    refine Ops.u (Dtu.min (lk rfl) (lk rfl)) rfl ?_
    refine Ops.u (Dtu.asg (lk rfl)) rfl ?_
    refine Ops.u (Dtu.asg (lk rfl)) rfl ?_
    refine Ops.nil ?_
    refine Then.next ?_
    have hmn : min (((k : Int) + 1) * 480) (fr.length : Int) = ((min ((k + 1) * 480) fr.length : Nat) : Int) := by omega
    rw [hmn]
    have hle1 : k * 480 ≤ min ((k + 1) * 480) fr.length := by omega
    have hle2 : min ((k + 1) * 480) fr.length ≤ fr.length := by omega
    have hsub := hs.subX (k * 480) (min ((k + 1) * 480) fr.length) (min ((k + 1) * 480) fr.length) hle1 hle2 (Nat.le_refl _) (by omega)
    have hdl : (fr.drop (k * 480)).take (min ((k + 1) * 480) fr.length - k * 480) = (fr.drop (480 * k)).take 480 := by
      rw [Nat.mul_comm 480 k]
      by_cases h : (k + 1) * 480 ≤ fr.length
      · rw [show min ((k + 1) * 480) fr.length - k * 480 = 480 by omega]
      · rw [List.take_of_length_le (i := 480) (by rw [List.length_drop]; omega), List.take_of_length_le (by rw [List.length_drop]; omega)]
    have hdn : ((fr.drop (480 * k)).take 480).length = min ((k + 1) * 480) fr.length - k * 480 := by rw [← hdl, List.length_take, List.length_drop]; omega
    have hd9 : ((fr.drop (480 * k)).take 480).length ≤ 480 := by rw [List.length_take]; omega
    rw [hdl, ← hdn] at hsub
    generalize min ((k + 1) * 480) fr.length = mx at *
    generalize hdd : (fr.drop (480 * k)).take 480 = dd at *
    refine Body.region ?_
    refine Ops.u (Dtu.mv (lk rfl)) rfl ?_
    refine Ops.u (Dtu.mv (lk rfl)) rfl ?_
    refine Ops.u (Dtu.mv (lk rfl)) rfl ?_
    refine Ops.u (Dtu.mv (lk rfl)) rfl ?_
    refine Ops.u (Dtu.mv (lk rfl)) rfl ?_
    refine Ops.u (Dtu.mv (lk rfl)) rfl ?_
    refine Ops.u (Dtu.mv (lk rfl)) rfl ?_
    refine Ops.u (Dtu.mv (lk rfl)) rfl ?_
    refine Ops.u (Dtu.slLHM (k * 480) (mx) (mx) Try.underlying23 Try.sizeOf5 (Sl.up hs) (lk rfl) (lk rfl) (lk rfl) (lk rfl) (by omega) (by omega) (by omega) (by omega) (by omega) (by omega)) rfl ?_
    refine Ops.s (Stp.call rfl Try.call38 (lks rfl) (fun E' le hat => cloneB_ok E' _ _ _ (hsub.mono le) (all_map (fun _ => rfl) _) (by omega)) ?_) rfl
    rintro _ _ ⟨rfl, ⟨ra, rm, rc, rfl⟩⟩
    refine Ops.conseq (fun w s => poolCons s) ?_
    have hlp : ps.length ≤ 60 := by omega
    have hin : ∀ i, i < k + 1 → (ps ++ [(⟨id, (k : Nat), (c : Nat), dd, .slice ra rm rc⟩ : Prt)])[i]!.id = id ∧ (ps ++ [(⟨id, (k : Nat), (c : Nat), dd, .slice ra rm rc⟩ : Prt)])[i]!.ix = (i : Int) ∧ (ps ++ [(⟨id, (k : Nat), (c : Nat), dd, .slice ra rm rc⟩ : Prt)])[i]!.ct = (c : Nat) ∧ (ps ++ [(⟨id, (k : Nat), (c : Nat), dd, .slice ra rm rc⟩ : Prt)])[i]!.d = (fr.drop (480 * i)).take 480 ∧ osl 5 1 (ps ++ [(⟨id, (k : Nat), (c : Nat), dd, .slice ra rm rc⟩ : Prt)])[i]!.s (ps ++ [(⟨id, (k : Nat), (c : Nat), dd, .slice ra rm rc⟩ : Prt)])[i]!.d.length (u8s (ps ++ [(⟨id, (k : Nat), (c : Nat), dd, .slice ra rm rc⟩ : Prt)])[i]!.d) ∈ osl 5 1 (.slice ra rm rc) dd.length (dd.map (.int .u8)) :: L := fun i hi => by
      by_cases h : i < k
      · have e : (ps ++ [(⟨id, (k : Nat), (c : Nat), dd, .slice ra rm rc⟩ : Prt)])[i]! = ps[i]! := by
          rw [getElem!_pos _ i (by simp; omega), getElem!_pos ps i (by omega), List.getElem_append_left (by omega)]
        rw [e]
        obtain ⟨q1, q2, q3, q4, q5⟩ := hp i h
        exact ⟨q1, q2, q3, q4, .tail _ q5⟩
      · obtain rfl : i = k := by omega
        have e : (ps ++ [(⟨id, (i : Nat), (c : Nat), dd, .slice ra rm rc⟩ : Prt)])[i]! = ⟨id, (i : Nat), (c : Nat), dd, .slice ra rm rc⟩ := by
          rw [getElem!_pos _ i (by simp; omega), List.getElem_append_right (by omega)]; simp [hl]
        rw [e]
        exact ⟨rfl, rfl, rfl, hdd.symm, .head _⟩
    refine Ops.u (Dtu.build ty35 pl35 (lkp rfl) rfl rfl) rfl ?_
    refine Ops.s (Stp.buildSliceO Try.underlying25 ty35 (by decide) (by decide) (lkp rfl) rfl rfl rfl (by decide) (fun v44 => ?_)) rfl
    refine Ops.s (Stp.append 2 Try.underlying25 ty35 rfl rfl (lk rfl) (lk rfl) (Sl.osl 0 rfl) (by first | rfl | exact all_map (fun _ => rfl) _ | exact all_flat (fun _ => rfl) _) (by omega) (by omega) (fun v45 => ?_)) rfl
    refine Ops.u (Dtu.asg (lk rfl)) rfl ?_
    refine Ops.nil ?_
    refine Blk.norm ?_
    refine Then.next ?_
    refine Body.region ?_
    refine Ops.u (Dtu.add (lk rfl) (lk rfl) (w64 (by omega) (by omega))) rfl ?_
    refine Ops.u (Dtu.mv (lk rfl)) rfl ?_
    refine Ops.nil ?_
    refine Round.goL [1, 1] (k + 1, v45, ps ++ [(⟨id, (k : Nat), (c : Nat), dd, .slice ra rm rc⟩ : Prt)], _) rfl ⟨rfl, rfl, trivial⟩ rfl (by (try dsimp only); rw [List.length_append, List.flatMap_append]; rfl) ⟨hlt, by dsimp only; rw [List.length_append]; simp; omega, hin⟩ (by dsimp only; omega)
  · refine Body.seq ?_
    refine Body.region ?_
    refine Ops.u (Dtu.lss (lk rfl) (lk rfl)) rfl ?_
    refine Ops.nil ?_
    refine Then.next ?_
    refine Body.seq ?_
    refine Body.condP (lk rfl) (fun hy => absurd hy (by first | omega | assumption | decide)) (fun _ => ?_)
    refine Body.exit ?_
    refine Then.exit ?_
    refine Round.exit ?_
    refine Blk.here ?_
    refine Then.next ?_
    refine Body.seq ?_
    refine Body.region ?_
    refine Ops.u (Dtu.mv (lk rfl)) rfl ?_
    refine Ops.u (Dtu.asg (lk rfl)) rfl ?_
    refine Ops.u (Dtu.asg (lk rfl)) rfl ?_
    refine Ops.nil ?_
    refine Then.next ?_
    refine Body.ret ?_
    exact ⟨.inr rfl, _, pk [1, 0] rfl, ⟨_, ps, L, rfl, rfl, by rw [hcg]; omega, fun i hi => (hp i (by omega)).1, fun i hi => (hp i (by omega)).2.1, fun i hi => by rw [hcg]; exact (hp i (by omega)).2.2.1, fun i hi => (hp i (by omega)).2.2.2.1, fun i hi => (hp i (by omega)).2.2.2.2⟩⟩
end Go.Proofs.Ytagcpamchgpgiaa
end
section
/- join.Table in memory. -/
namespace Go.Proofs.Ytagcpamchgpgiaa
set_option maxRecDepth 100000
set_option maxHeartbeats 4000000
set_option linter.unusedVariables false
set_option linter.unusedSimpArgs false
open Go.Sx
/-- a frame that is not whole: which parts came, with their bytes -/
structure FR where
  id : Nat
  cnt : Nat
  got : List (Option (List Int))
instance : Inhabited FR := ⟨⟨0, 0, []⟩⟩
def FR.left (F : FR) : Nat := F.cnt - F.got.countP Option.isSome
structure FR.Ok (F : FR) : Prop where
  len : F.got.length = 64
  c0 : 1 ≤ F.cnt
  c1 : F.cnt ≤ 64
  i0 : 1 ≤ F.id
  i1 : F.id ≤ 4611686018427387903
  g : ∀ i d, F.got[i]? = some (some d) → i < F.cnt ∧ d.length ≤ 480 ∧ (d.length = 0 → F.cnt = 1) ∧ (d.length = 480 ∨ i = F.cnt - 1)
structure Tb where
  floor : Nat
  fs : List FR
structure Tb.Ok (T : Tb) : Prop where
  f0 : 1 ≤ T.floor
  fl : T.floor ≤ 4611686018427387904
  len : T.fs.length ≤ 4
  nd : (T.fs.map FR.id).Nodup
  ok : ∀ F ∈ T.fs, F.Ok
  ge : ∀ F ∈ T.fs, T.floor ≤ F.id
/-- a frame's cells -/
def cellsO (cnt : Nat) (came : List Bool) (ps : List Prt) (left : Int) : List Value := .int .i64 (cnt : Nat) :: (came.map Value.bool ++ (ps.flatMap Prt.enc ++ [.int .i64 left]))
theorem Prt.enc_len (p : Prt) : p.enc.length = 4 := rfl
section
variable {cnt : Nat} {came : List Bool} {ps : List Prt} {left : Int}
theorem cO_cnt : (cellsO cnt came ps left)[0]? = some (.int .i64 (cnt : Nat)) := rfl
theorem cO_left (h1 : came.length = 64) (h2 : ps.length = 64) : (cellsO cnt came ps left)[321]? = some (.int .i64 left) := by
  simp [cellsO, List.getElem?_append, h1, flat_len Prt.enc_len, h2]
theorem cO_came (h1 : came.length = 64) {i : Nat} (hi : i < 64) : (cellsO cnt came ps left)[1 + i]? = some (.bool came[i]!) := by
  rw [Nat.add_comm, cellsO, List.getElem?_cons_succ, List.getElem?_append_left (by simp; omega), List.getElem?_map, List.getElem?_eq_getElem (by omega), getElem!_pos came i (by omega)]
  rfl
theorem putC_mk {a us c vs' : List Value} {off : Nat} {bs : List Value} (ha : a.length = off) (hb : bs.length = us.length) (h : vs' = a ++ us ++ c) : PutC (a ++ bs ++ c) off us vs' := by
  subst ha h
  refine ⟨by simp; omega, ?_⟩
  have e1 : (a ++ bs ++ c).take a.length = a := by rw [List.append_assoc, List.take_left]
  have e2 : (a ++ bs ++ c).drop (a.length + us.length) = c := by rw [← hb, ← List.length_append, List.drop_left]
  rw [e1, e2]
theorem list_at {α : Type} (l : List α) {i : Nat} (h : i < l.length) : ∃ a x c, l = a ++ x :: c ∧ a.length = i :=
  ⟨l.take i, l[i], l.drop (i + 1), by rw [← List.drop_eq_getElem_cons, List.take_append_drop], by simp; omega⟩
theorem set_at {α : Type} (a : List α) (x y : α) (c : List α) : (a ++ x :: c).set a.length y = a ++ y :: c := by simp
theorem put_left (h1 : came.length = 64) (h2 : ps.length = 64) (x : Int) : PutC (cellsO cnt came ps left) 321 [.int .i64 x] (cellsO cnt came ps x) := by
  have := putC_mk (a := .int .i64 (cnt : Nat) :: (came.map Value.bool ++ ps.flatMap Prt.enc)) (bs := [.int .i64 left]) (us := [.int .i64 x]) (c := []) (off := 321) (by simp [h1, flat_len Prt.enc_len, h2]) rfl rfl
  simpa [cellsO] using this
theorem put_came (h1 : came.length = 64) {i : Nat} (hi : i < 64) (x : Bool) : PutC (cellsO cnt came ps left) (1 + i) [.bool x] (cellsO cnt (came.set i x) ps left) := by
  obtain ⟨a, y, c, rfl, rfl⟩ := list_at came (i := i) (by omega)
  rw [set_at]
  have := putC_mk (a := .int .i64 (cnt : Nat) :: a.map Value.bool) (bs := [.bool y]) (us := [.bool x]) (c := c.map Value.bool ++ (ps.flatMap Prt.enc ++ [.int .i64 left])) (off := 1 + a.length) (by simp; omega) rfl rfl
  simpa [cellsO] using this
theorem put_part (h1 : came.length = 64) (h2 : ps.length = 64) {i : Nat} (hi : i < 64) (p : Prt) : PutC (cellsO cnt came ps left) (65 + 4 * i) p.enc (cellsO cnt came (ps.set i p) left) := by
  obtain ⟨a, y, c, rfl, rfl⟩ := list_at ps (i := i) (by omega)
  rw [set_at]
  have := putC_mk (a := .int .i64 (cnt : Nat) :: (came.map Value.bool ++ a.flatMap Prt.enc)) (bs := y.enc) (us := p.enc) (c := c.flatMap Prt.enc ++ [.int .i64 left]) (off := 65 + 4 * a.length) (by simp [h1, flat_len Prt.enc_len]; omega) rfl rfl
  simpa [cellsO, List.append_assoc] using this
/-- the parts, as a slice of the frame's block -/
theorem cO_parts {E : Env} {b : Nat} (h : At (own b (cellsO cnt came ps left) 89) E) (h1 : came.length = 64) (h2 : ps.length = 64) {m : Nat} (h0 : 0 < m) (hm : m ≤ 64) :
    Sl E [] 4 (subSl (.slice (some ⟨b, 0 + 65, none⟩) 64 64) 4 0 m 64) m ((ps.take m).flatMap Prt.enc) := fun w s => by
  obtain ⟨x, rfl, le⟩ := h
  have hb : w.heap[b]? = some (.cells (cellsO cnt came ps left).toArray 89 (0, 0)) := (le.trans s.keep) b _ (by simp [Hp.one])
  have hl : ((ps.take m).flatMap Prt.enc).length = m * 4 := by rw [flat_len Prt.enc_len]; simp; omega
  refine ⟨hl, by unfold maxLen; omega, .inr ⟨64, ?_, by omega, by unfold maxLen; omega, fun j u hj => ?_⟩⟩
  · simp [subSl, blkOf, offOf, Addr.add]
  · refine cell_of_heap hb ?_
    have hjl : j < m * 4 := by rw [← hl]; exact (List.getElem?_eq_some_iff.1 hj).1
    rw [List.getElem?_toArray]
    have hoff : offOf (subSl (.slice (some ⟨b, 0 + 65, none⟩) 64 64) 4 0 m 64) = 65 := by simp [subSl, offOf, Addr.add]
    rw [hoff, cellsO, show 65 + j = (64 + j) + 1 by omega, List.getElem?_cons_succ, List.getElem?_append_right (by simp [h1]), List.length_map, h1, show 64 + j - 64 = j by omega, List.getElem?_append_left (by rw [flat_len Prt.enc_len, h2]; omega)]
    have e : ps.flatMap Prt.enc = (ps.take m).flatMap Prt.enc ++ (ps.drop m).flatMap Prt.enc := by rw [← List.flatMap_append, List.take_append_drop]
    rw [e, List.getElem?_append_left (by rw [hl]; exact hjl)]
    exact hj
end
/-- a frame in memory -/
structure FE where
  F : FR
  b : Nat
  ps : List Prt
def FE.ptr (e : FE) : Value := .pointer (some ⟨e.b, 0, none⟩)
def FE.own (e : FE) : HProp := Sx.own e.b (cellsO e.F.cnt (e.F.got.map Option.isSome) e.ps (e.F.left : Nat)) 89
def FE.id (e : FE) : Nat := e.F.id
structure FE.Rep (e : FE) (L : List HProp) : Prop where
  len : e.ps.length = 64
  p : ∀ i d, e.F.got[i]? = some (some d) → ∃ s, e.ps[i]? = some (⟨e.F.id, ((i : Nat) : Int), ((e.F.cnt : Nat) : Int), d, s⟩ : Prt) ∧ osl 5 1 s d.length (u8s d) ∈ L
theorem FE.Rep.mono {e : FE} {L M : List HProp} (h : e.Rep L) (hs : ∀ A ∈ L, A ∈ M) : e.Rep M := ⟨h.len, fun i d hi => let ⟨s, h1, h2⟩ := h.p i d hi; ⟨s, h1, hs _ h2⟩⟩
def fml (es : List FE) : ML := es.map fun e => ((e.id : Int), e.ptr)
structure TabR (T : Tb) (es : List FE) (L : List HProp) : Prop where
  fs : T.fs = es.map FE.F
  ok : T.Ok
  rep : ∀ e ∈ es, e.Rep L
def tabP (b : Nat) (T : Tb) : HProp := fun h => ∃ y es L, TabR T es L ∧ Sat [own b [.int .u64 (T.floor : Nat), .map (some y)] 52, omp .u64 y (fml es), many (es.map FE.own), many L] h
theorem tabP_out {E : Env} {b : Nat} {T : Tb} {H : List HProp} {w : World} (s : St E (tabP b T :: H) w) : ∃ y es L, TabR T es L ∧ St E (own b [.int .u64 (T.floor : Nat), .map (some y)] 52 :: omp .u64 y (fml es) :: many (es.map FE.own) :: many L :: H) w := by
  obtain ⟨h, ⟨h1, h2, ⟨y, es, L, hi, s1'⟩, s2, d, rfl⟩, dE, lh⟩ := s.has
  exact ⟨y, es, L, hi, ⟨⟨_, (Sat.append (H := [_, _, _, _])).2 ⟨h1, h2, s1', s2, d, rfl⟩, dE, lh⟩, s.keep, s.os, s.tape, s.output⟩⟩
theorem tabP_in {E : Env} {b y : Nat} {T : Tb} {es : List FE} {L H : List HProp} {w : World} (hi : TabR T es L) (s : St E (own b [.int .u64 (T.floor : Nat), .map (some y)] 52 :: omp .u64 y (fml es) :: many (es.map FE.own) :: many L :: H) w) : St E (tabP b T :: H) w := by
  obtain ⟨h, s0, dE, lh⟩ := s.has
  obtain ⟨h1, h2, s1, s2, d, rfl⟩ := (Sat.append (H := [_, _, _, _])).1 s0
  exact ⟨⟨_, ⟨h1, h2, ⟨y, es, L, hi, s1⟩, s2, d, rfl⟩, dE, lh⟩, s.keep, s.os, s.tape, s.output⟩
theorem Does.tab {P : Program} {g : FuncId} {args : Array Value} {E : Env} {b : Nat} {T : Tb} {H : List HProp} {Q : Value → List HProp → Prop}
    (h : ∀ y es L, TabR T es L → Does P g args E (own b [.int .u64 (T.floor : Nat), .map (some y)] 52 :: omp .u64 y (fml es) :: many (es.map FE.own) :: many L :: H) Q) : Does P g args E (tabP b T :: H) Q :=
  fun w s => let ⟨y, es, L, hi, s2⟩ := tabP_out s; h y es L hi w s2
theorem fml_split {res : List FE} {a c : ML} {p : Int × Value} (h : fml res = a ++ p :: c) : ∃ a' e c', res = a' ++ e :: c' ∧ a = fml a' ∧ p = ((e.id : Int), e.ptr) ∧ c = fml c' := by
  obtain ⟨l1, l2, rfl, h1, h2⟩ := List.map_eq_append_iff.1 h
  obtain ⟨e, l3, rfl, h3, h4⟩ := List.map_eq_cons_iff.1 h2
  exact ⟨l1, e, l3, rfl, h1.symm, h3.symm, h4.symm⟩
theorem fml_app (a c : List FE) : fml (a ++ c) = fml a ++ fml c := List.map_append
theorem mget_fml_none {es : List FE} {id : Nat} (h : ∀ e ∈ es, e.id ≠ id) : mget (fml es) (id : Int) = none := by
  induction es with
  | nil => rfl
  | cons e es ih =>
    simp only [fml, List.map_cons, mget]
    rw [if_neg (fun he => h e (.head _) (by omega))]
    exact ih fun x hx => h x (.tail _ hx)
theorem mget_fml_some {A C : List FE} {e : FE} (h : ∀ x ∈ A, x.id ≠ e.id) : mget (fml (A ++ e :: C)) (e.id : Int) = some e.ptr := by
  induction A with
  | nil => simp only [List.nil_append, fml, List.map_cons, mget, if_true]
  | cons x A ih =>
    simp only [List.cons_append, fml, List.map_cons, mget]
    rw [if_neg (fun he => h x (.head _) (by omega))]
    exact ih fun y hy => h y (.tail _ hy)
theorem mdel_fml {es : List FE} {id : Nat} (h : (es.map FE.id).Nodup) : mdel (fml es) (id : Int) = fml (es.filter fun e => e.id ≠ id) := by
  induction es with
  | nil => rfl
  | cons e es ih =>
    rw [List.map_cons, List.nodup_cons] at h
    simp only [fml, List.map_cons, mdel]
    by_cases he : id = e.id
    · subst he
      rw [if_pos rfl, List.filter_cons_of_neg (by simp)]
      have : es.filter (fun x => x.id ≠ e.id) = es := List.filter_eq_self.2 fun x hx => by
        have : x.id ≠ e.id := fun hh => h.1 (by rw [← hh]; exact List.mem_map_of_mem hx)
        simpa using this
      rw [this]
    · rw [if_neg (by omega), List.filter_cons_of_pos (by simp; omega)]
      simp only [List.map_cons]
      rw [show es.map (fun e => ((e.id : Int), e.ptr)) = fml es from rfl, ih h.2]
      rfl
theorem mput_fml_new {es : List FE} {e : FE} (h : ∀ x ∈ es, x.id ≠ e.id) : mput (fml es) (e.id : Int) e.ptr = fml (es ++ [e]) := by
  induction es with
  | nil => rfl
  | cons x es ih =>
    simp only [List.cons_append, fml, List.map_cons, mput]
    rw [if_neg (fun he => h x (.head _) (by omega))]
    exact congrArg _ (ih fun y hy => h y (.tail _ hy))
theorem jnew_ok (E : Env) : Does Try.prog 11 #[] E ([]) fun r H' => ∃ b, r = .pointer (some ⟨b, 0, none⟩) ∧ H' = [tabP b ⟨1, []⟩] := by
  refine Does.post (Q := fun r H' => ∃ b q, r = .pointer (some ⟨b, 0, none⟩) ∧ H' = [own b [.int .u64 1, .map (some q)] 52, omp .u64 q []]) ?_ ?_
  · refine Does.go _ _ Try.func11 rfl Try.ntmps11 rfl rfl ?_
    skip
    refine Body.seq ?_
    refine Body.region ?_
    refine Ops.u (Dtu.asg (lk rfl)) rfl ?_
    refine Ops.nil ?_
    refine Then.next ?_
    refine Body.seq ?_
    refine Body.region ?_
    refine Ops.s (Stp.makeMap .u64 (fun r1 => ?_)) rfl
    refine Ops.u (Dtu.build ty52 pl52 (lkp rfl) rfl rfl) rfl ?_
    refine Ops.s (Stp.box (lk rfl) rfl (fun b3 => ?_)) rfl
    refine Ops.u (Dtu.asg (lk rfl)) rfl ?_
    refine Ops.nil ?_
    refine Then.next ?_
    refine Body.ret ?_
    exact ⟨.inr rfl, _, pk [0, 0] rfl, ⟨_, _, rfl, rfl⟩⟩
  · rintro _ _ ⟨b, q, rfl, rfl⟩
    refine ⟨_, fun w s => ?_, b, rfl, rfl⟩
    refine tabP_in (y := q) (es := []) (L := []) ⟨rfl, ⟨Nat.le_refl _, by dsimp only; omega, by simp, List.nodup_nil, by simp, by simp⟩, by simp⟩ ?_
    have s1 : St E (many [] :: many [] :: _) w := many_nil (many_nil s)
    exact s1.perm ((List.perm_append_comm (l₁ := [many [], many []]) (l₂ := [_, _])))
theorem made_b (E : Env) (b y x : Nat) (hA : At (own b [.int .u64 (x : Nat), .map (some y)] 52) E) : Does Try.prog 39 #[.pointer (some ⟨b, 0, none⟩)] E ([]) fun r H' => r = .bool true ∧ H' = [] := by
  refine Does.go _ _ Try.func39 rfl Try.ntmps39 rfl rfl ?_
  skip
  refine Body.seq ?_
  refine Body.region ?_
  refine Ops.u (Dtu.asg (lk rfl)) rfl ?_
  refine Ops.nil ?_
  refine Then.next ?_
  refine Body.seq ?_
  refine Body.region ?_
  refine Ops.u (Dtu.mv (lk rfl)) rfl ?_
  refine Ops.u (Dtu.neNil Try.underlying29 (lk rfl) (lk rfl)) rfl ?_
  refine Ops.u (Dtu.mv (lk rfl)) rfl ?_
  refine Ops.gu rfl rfl rfl (Dtu.mv (lk rfl)) rfl ?_
  refine Ops.gu rfl rfl rfl (Dtu.nilck (lk rfl)) rfl ?_
  refine Ops.gu rfl rfl rfl (Dtu.fld fa52_1 (lk rfl)) rfl ?_
  refine Ops.gd rfl rfl rfl (Det.ld Try.isAgg50 (lk rfl) (Rd.env (own_at hA rfl))) rfl ?_
  refine Ops.gu rfl rfl rfl (Dtu.neNilM Try.underlying50 (lk rfl) (lk rfl)) rfl ?_
  refine Ops.u (Dtu.pickT (lk rfl) (lk rfl)) rfl ?_
  refine Ops.u (Dtu.asg (lk rfl)) rfl ?_
  refine Ops.nil ?_
  refine Then.next ?_
  refine Body.ret ?_
  exact ⟨.inr rfl, _, pk [] rfl, rfl, rfl⟩
theorem floor_b (E : Env) (b y : Nat) (T : Tb) (hA : At (own b [.int .u64 (T.floor : Nat), .map (some y)] 52) E) : Does Try.prog 13 #[.pointer (some ⟨b, 0, none⟩)] E ([]) fun r H' => r = .int .u64 (T.floor : Nat) ∧ H' = [] := by
  refine Does.go _ _ Try.func13 rfl Try.ntmps13 rfl rfl ?_
  skip
  refine Body.seq ?_
  refine Body.region ?_
  refine Ops.u (Dtu.asg (lk rfl)) rfl ?_
  refine Ops.nil ?_
  refine Then.next ?_
  refine Body.seq ?_
  refine Body.seq ?_
  refine Body.region ?_
  refine Ops.u (Dtu.mv (lk rfl)) rfl ?_
  refine Ops.u (Dtu.eqNil Try.underlying29 (lk rfl) (lk rfl)) rfl ?_
  refine Ops.nil ?_
  refine Then.next ?_
  refine Body.condF (lk rfl) ?_
  refine Body.skip ?_
  refine Then.next ?_
  refine Body.seq ?_
  refine Body.region ?_
  refine Ops.u (Dtu.mv (lk rfl)) rfl ?_
  refine Ops.u (Dtu.nilck (lk rfl)) rfl ?_
  refine Ops.u (Dtu.fld fa52_0 (lk rfl)) rfl ?_
  refine Ops.d (Det.ld Try.isAgg22 (lk rfl) (Rd.env (own_at hA rfl))) rfl ?_
  refine Ops.u (Dtu.asg (lk rfl)) rfl ?_
  refine Ops.nil ?_
  refine Then.next ?_
  refine Body.ret ?_
  exact ⟨.inr rfl, _, pk [] rfl, rfl, rfl⟩
/-- the frames that are not below -/
def Tb.raise (T : Tb) (fl : Nat) : Tb := ⟨fl, T.fs.filter fun F => fl ≤ F.id⟩
theorem ents_nodup {T : Tb} {es : List FE} {L : List HProp} (h : TabR T es L) : (es.map FE.id).Nodup := by
  have := h.ok.nd
  rw [h.fs, List.map_map] at this
  exact this
/-- what a table has while its floor is raised: what is not below, and what was not looked at -/
def lefts (fl : Nat) (es res : List FE) : List FE := es.filter fun e => decide (fl ≤ e.id) || (res.map FE.id).contains e.id
theorem lefts_all (fl : Nat) (es : List FE) : lefts fl es es = es := List.filter_eq_self.2 fun e he => by
  have : (es.map FE.id).contains e.id = true := List.contains_iff_mem.2 (List.mem_map_of_mem he)
  simp only [this, Bool.or_true]
theorem lefts_none (fl : Nat) (es : List FE) : lefts fl es [] = es.filter fun e => decide (fl ≤ e.id) := by simp [lefts]
theorem lefts_del {fl : Nat} {es a c : List FE} {e : FE} (hn : (es.map FE.id).Nodup) (hr : ((a ++ e :: c).map FE.id).Nodup) (h : e.id < fl) : mdel (fml (lefts fl es (a ++ e :: c))) (e.id : Int) = fml (lefts fl es (a ++ c)) := by
  rw [mdel_fml (show ((lefts fl es (a ++ e :: c)).map FE.id).Nodup from hn.sublist (List.filter_sublist.map _))]
  congr 1
  simp only [lefts, List.filter_filter]
  refine List.filter_congr fun x hx => ?_
  rw [List.map_append, List.map_cons, List.nodup_append, List.nodup_cons] at hr
  rw [Bool.eq_iff_iff]
  simp only [Bool.and_eq_true, decide_eq_true_eq, Bool.or_eq_true, List.contains_iff_mem, List.map_append, List.map_cons, List.mem_append, List.mem_cons, ne_eq]
  constructor
  · rintro ⟨h1, h2 | h2 | h2 | h2⟩
    · exact .inl h2
    · exact .inr (.inl h2)
    · exact absurd h2 h1
    · exact .inr (.inr h2)
  · rintro (h1 | h1 | h1)
    · exact ⟨by omega, .inl h1⟩
    · exact ⟨fun he => hr.2.2 _ h1 _ (.head _) he, .inr (.inl h1)⟩
    · exact ⟨fun he => hr.2.1.1 (he ▸ h1), .inr (.inr (.inr h1))⟩
theorem lefts_keep {fl : Nat} {es a c : List FE} {e : FE} (h : fl ≤ e.id) : lefts fl es (a ++ e :: c) = lefts fl es (a ++ c) := by
  simp only [lefts]
  refine List.filter_congr fun x hx => ?_
  rw [Bool.eq_iff_iff]
  simp only [Bool.or_eq_true, decide_eq_true_eq, List.contains_iff_mem, List.map_append, List.map_cons, List.mem_append, List.mem_cons]
  constructor
  · rintro (h1 | h1 | h1 | h1)
    · exact .inl h1
    · exact .inr (.inl h1)
    · exact .inl (by omega)
    · exact .inr (.inr h1)
  · rintro (h1 | h1 | h1)
    · exact .inl h1
    · exact .inr (.inl h1)
    · exact .inr (.inr (.inr h1))
theorem mget_rest {a c : List FE} {e : FE} (hr : ((a ++ e :: c).map FE.id).Nodup) : mget (fml (a ++ c)) (e.id : Int) = none := mget_fml_none fun x hx he => by
  rw [List.map_append, List.map_cons, List.nodup_append, List.nodup_cons] at hr
  rcases List.mem_append.1 hx with h | h
  · exact hr.2.2 _ (List.mem_map_of_mem h) _ (.head _) he
  · exact hr.2.1.1 (by rw [← he]; exact List.mem_map_of_mem h)
theorem nodup_rest {a c : List FE} {e : FE} (hr : ((a ++ e :: c).map FE.id).Nodup) : ((a ++ c).map FE.id).Nodup :=
  hr.sublist ((List.Sublist.append (List.Sublist.refl a) (List.sublist_cons_self e c)).map _)
theorem raise_o (E : Env) (b y fl fl0 : Nat) (es : List FE) (hn : (es.map FE.id).Nodup) : Does Try.prog 43 #[.pointer (some ⟨b, 0, none⟩), .int .u64 (fl : Nat)] E ([own b [.int .u64 (fl0 : Nat), .map (some y)] 52, omp .u64 y (fml es)]) fun r H' => r = .tuple #[] ∧ H' = [own b [.int .u64 (fl : Nat), .map (some y)] 52, omp .u64 y (fml (es.filter fun e => decide (fl ≤ e.id)))] := by
  refine Does.go _ _ Try.func43 rfl Try.ntmps43 rfl rfl ?_
  skip
  refine Body.seq ?_
  refine Body.region ?_
  refine Ops.u (Dtu.mv (lk rfl)) rfl ?_
  refine Ops.u (Dtu.mv (lk rfl)) rfl ?_
  refine Ops.u (Dtu.nilck (lk rfl)) rfl ?_
  refine Ops.u (Dtu.fld fa52_0 (lk rfl)) rfl ?_
  refine Ops.e (Stp.store 0 Try.sizeOf22 (lk rfl) (lk rfl) rfl rfl rfl rfl rfl rfl rfl ?_)
  refine Ops.nil ?_
  refine Then.next ?_
  refine Body.seq ?_
  refine Body.region ?_
  refine Ops.u (Dtu.mv (lk rfl)) rfl ?_
  refine Ops.u (Dtu.nilck (lk rfl)) rfl ?_
  refine Ops.u (Dtu.fld fa52_1 (lk rfl)) rfl ?_
  refine Ops.d (Det.ld Try.isAgg50 (lk rfl) (Rd.ow 0 rfl rfl)) rfl ?_
  refine Ops.s (Stp.range 1 Try.underlying50 rfl (lk rfl) (fun b13 => ?_)) rfl
  refine Ops.nil ?_
  refine Then.next ?_
  refine Body.block ?_
  refine Body.conseq (H' := [itr .u64 b13 y (fml (lefts fl es es)) (fml es) none, own b [.int .u64 (fl : Nat), .map (some y)] 52]) (fun w s => by rw [lefts_all]; exact s) ?_
  refine Body.loopL (γ := List FE × Option (Int × Value)) [0, 1, 13] rfl (fun g => []) (fun g => [(0, itr .u64 b13 y (fml (lefts fl es g.1)) (fml g.1) g.2)]) (fun _ => rfl) (fun _ _ => rfl) (fun g => (g.1.map FE.id).Nodup) (fun g => g.1.length) ((es, none)) (hn) trivial rfl ?_
  rintro ⟨res, cur⟩ u hrn
  dsimp only at hrn ⊢
  refine Body.seq ?_
  refine Body.region ?_
  refine Ops.s (Stp.next 0 rfl (lk rfl) (fun hz14 => ?_) (fun _ _ _ => rfl) (fun ra14 rc14 p14 hr14 => ?_)) rfl
  · have : res = [] := List.map_eq_nil_iff.1 hz14
    subst this
    rw [lefts_none]
    refine Ops.u (Dtu.ext (lk rfl) rfl) rfl ?_
    refine Ops.nil ?_
    refine Then.next ?_
    refine Body.seq ?_
    refine Body.condF (lk rfl) ?_
    refine Body.exit ?_
    refine Then.exit ?_
    refine Round.exit ?_
    refine Blk.here ?_
    refine ⟨.inl rfl, _, fun w s => (itr_omp s).perm (List.Perm.swap _ _ _), rfl, rfl⟩
  · obtain ⟨a', e, c', rfl, rfl, rfl, rfl⟩ := fml_split hr14
    rw [← fml_app]
    have hmr := mget_rest hrn
    have hmd := lefts_del (fl := fl) (a := a') (c := c') hn hrn
    have hmk := lefts_keep (fl := fl) (es := es) (a := a') (e := e) (c := c')
    have hrn2 := nodup_rest hrn
    by_cases hlt : e.id < fl
    · have hmd := hmd hlt
      refine Ops.u (Dtu.ext (lk rfl) rfl) rfl ?_
      refine Ops.nil ?_
      refine Then.next ?_
      refine Body.seq ?_
      refine Body.condT (lk rfl) ?_
      refine Body.skip ?_
      refine Then.next ?_
      refine Body.block ?_
      refine Body.seq ?_
      refine Body.region ?_
      refine Ops.d (Det.entry 0 rfl (lk rfl)) rfl ?_
      refine Ops.u (Dtu.ext (lk rfl) rfl) rfl ?_
      refine Ops.u (Dtu.asg (lk rfl)) rfl ?_
      refine Ops.nil ?_
      refine Then.next ?_
      refine Body.seq ?_
      refine Body.region ?_
      refine Ops.u (Dtu.mv (lk rfl)) rfl ?_
      refine Ops.u (Dtu.mv (lk rfl)) rfl ?_
      refine Ops.u (Dtu.lss (lk rfl) (lk rfl)) rfl ?_
      refine Ops.nil ?_
      refine Then.next ?_
      refine Body.condP (lk rfl) (fun _ => ?_) (fun hn => absurd (by first | omega | assumption | decide) hn)
      refine Body.region ?_
      refine Ops.u (Dtu.mv (lk rfl)) rfl ?_
      refine Ops.u (Dtu.nilck (lk rfl)) rfl ?_
      refine Ops.u (Dtu.fld fa52_1 (lk rfl)) rfl ?_
      refine Ops.d (Det.ld Try.isAgg50 (lk rfl) (Rd.ow 1 rfl rfl)) rfl ?_
      refine Ops.u (Dtu.mv (lk rfl)) rfl ?_
      refine Ops.e (Stp.mdelI 0 Try.underlying50 Try.underlying22 rfl (lk rfl) (lk rfl) (by with_reducible assumption) rfl ?_)
      refine Ops.nil ?_
      refine Blk.norm ?_
      refine Round.goL [0, 0] (a' ++ c', none) rfl trivial rfl (by (try dsimp only); rw [hmd]) hrn2 (by simp)
    · have hmk := hmk (by omega)
      refine Ops.u (Dtu.ext (lk rfl) rfl) rfl ?_
      refine Ops.nil ?_
      refine Then.next ?_
      refine Body.seq ?_
      refine Body.condT (lk rfl) ?_
      refine Body.skip ?_
      refine Then.next ?_
      refine Body.block ?_
      refine Body.seq ?_
      refine Body.region ?_
      refine Ops.d (Det.entry 0 rfl (lk rfl)) rfl ?_
      refine Ops.u (Dtu.ext (lk rfl) rfl) rfl ?_
      refine Ops.u (Dtu.asg (lk rfl)) rfl ?_
      refine Ops.nil ?_
      refine Then.next ?_
      refine Body.seq ?_
      refine Body.region ?_
      refine Ops.u (Dtu.mv (lk rfl)) rfl ?_
      refine Ops.u (Dtu.mv (lk rfl)) rfl ?_
      refine Ops.u (Dtu.lss (lk rfl) (lk rfl)) rfl ?_
      refine Ops.nil ?_
      refine Then.next ?_
      refine Body.condP (lk rfl) (fun hy => absurd hy (by first | omega | assumption | decide)) (fun _ => ?_)
      refine Body.skip ?_
      refine Blk.norm ?_
      refine Round.goL [0, 0] (a' ++ c', some ((e.id : Int), e.ptr)) rfl trivial rfl (by (try dsimp only); rw [hmk]) hrn2 (by simp)
theorem Tb.Ok.raise {T : Tb} (h : T.Ok) {fl : Nat} (h1 : T.floor ≤ fl) (h2 : fl ≤ 4611686018427387904) : (T.raise fl).Ok :=
  ⟨Nat.le_trans h.f0 h1, h2, Nat.le_trans (List.length_filter_le _ _) h.len, h.nd.sublist (List.filter_sublist.map _), fun F hF => h.ok F (List.mem_filter.1 hF).1, fun F hF => by have := (List.mem_filter.1 hF).2; exact of_decide_eq_true this⟩
theorem TabR.raise {T : Tb} {es : List FE} {L : List HProp} (h : TabR T es L) {fl : Nat} (h1 : T.floor ≤ fl) (h2 : fl ≤ 4611686018427387904) : TabR (T.raise fl) (es.filter fun e => decide (fl ≤ e.id)) L :=
  ⟨by simp only [Tb.raise, h.fs, List.filter_map]; rfl, h.ok.raise h1 h2, fun e he => h.rep e (List.mem_filter.1 he).1⟩
theorem raise_t (E : Env) (b fl : Nat) (T : Tb) (h1 : T.floor ≤ fl) (h2 : fl ≤ 4611686018427387904) : Does Try.prog 43 #[.pointer (some ⟨b, 0, none⟩), .int .u64 (fl : Nat)] E ([tabP b T]) fun r H' => r = .tuple #[] ∧ H' = [tabP b (T.raise fl)] := by
  refine Does.tab fun y es L hR => ?_
  refine Does.post (Does.fram (Hc := [own b [.int .u64 (T.floor : Nat), .map (some y)] 52, omp .u64 y (fml es)]) (Hf := [many (es.map FE.own), many L]) fun E' le hat => raise_o E' b y fl T.floor es (ents_nodup hR)) ?_
  rintro _ _ ⟨A, ⟨rfl, rfl⟩, rfl⟩
  refine ⟨_, fun w s => tabP_in (y := y) (hR.raise h1 h2) ?_, rfl, rfl⟩
  have s1 := s.perm (show _ from (List.perm_append_comm (l₁ := [_, _]) (l₂ := [_, _])))
  have s2 := poolSub ((List.filter_sublist (p := fun e : FE => decide (fl ≤ e.id))).map FE.own) s1
  exact s2.perm (List.perm_append_comm (l₁ := [_, _]) (l₂ := [_, _]))
/-- the numbers of all frames, in order -/
def Tb.waits (T : Tb) : List Nat := (T.fs.map FR.id).mergeSort fun a b => decide (a ≤ b)
theorem sort_uniq {xs ys : List Nat} (hp : ys.Perm xs) (hs : ys.Pairwise (· ≤ ·)) : ys = xs.mergeSort fun a b => decide (a ≤ b) := by
  have h1 := List.mergeSort_perm xs fun a b => decide (a ≤ b)
  have h2 := List.pairwise_mergeSort (le := fun a b : Nat => decide (a ≤ b)) (fun a b c h1 h2 => by simp at *; omega) (fun a b => by simp; omega) xs
  refine List.Perm.eq_of_pairwise (le := fun a b => a ≤ b) (fun a b _ _ h1 h2 => by omega) hs ?_ (hp.trans h1.symm)
  exact h2.imp (fun {a b} h => by simpa using h)
theorem waits_o (E : Env) (b y x : Nat) (es : List FE) (hl : es.length ≤ 4) : Does Try.prog 14 #[.pointer (some ⟨b, 0, none⟩)] E ([own b [.int .u64 (x : Nat), .map (some y)] 52, omp .u64 y (fml es)]) fun r H' => ∃ ws : List Nat, H' = [osl 22 1 r ws.length (ws.map u6), own b [.int .u64 (x : Nat), .map (some y)] 52, omp .u64 y (fml es)] ∧ ws = (es.map FE.id).mergeSort fun a b => decide (a ≤ b) := by
  refine Does.go _ _ Try.func14 rfl Try.ntmps14 rfl rfl ?_
  skip
  refine Body.seq ?_
  refine Body.region ?_
  refine Ops.u (Dtu.asg (lk rfl)) rfl ?_
  refine Ops.nil ?_
  refine Then.next ?_
  refine Body.seq ?_
  refine Body.region ?_
  refine Ops.u (Dtu.asg (lk rfl)) rfl ?_
  refine Ops.nil ?_
  refine Then.next ?_
  refine Body.seq ?_
  refine Body.seq ?_
  refine Body.region ?_
  refine Ops.u (Dtu.mv (lk rfl)) rfl ?_
  refine Ops.s (Stp.call rfl Try.call39 (lks rfl) (fun E' le hat => made_b E' _ _ _ (by first | exact At.mono (by assumption) le | exact hat _ (.head _) | exact hat _ (.tail _ (.head _)) | exact hat _ (.tail _ (.tail _ (.head _))) | exact hat _ (.tail _ (.tail _ (.tail _ (.head _)))) | exact hat _ (.tail _ (.tail _ (.tail _ (.tail _ (.head _))))) | exact hat _ (.tail _ (.tail _ (.tail _ (.tail _ (.tail _ (.head _)))))) | exact hat _ (.tail _ (.tail _ (.tail _ (.tail _ (.tail _ (.tail _ (.head _))))))) | exact hat _ (.tail _ (.tail _ (.tail _ (.tail _ (.tail _ (.tail _ (.tail _ (.head _)))))))) | exact hat _ (.tail _ (.tail _ (.tail _ (.tail _ (.tail _ (.tail _ (.tail _ (.tail _ (.head _))))))))) | exact hat _ (.tail _ (.tail _ (.tail _ (.tail _ (.tail _ (.tail _ (.tail _ (.tail _ (.tail _ (.head _)))))))))))) ?_) rfl
  rintro _ _ ⟨rfl, rfl⟩
  refine Ops.nil ?_
  refine Then.next ?_
  refine Body.condT (lk rfl) ?_
  refine Body.seq ?_
  refine Body.region ?_
  refine Ops.u (Dtu.mv (lk rfl)) rfl ?_
  refine Ops.u (Dtu.nilck (lk rfl)) rfl ?_
  refine Ops.u (Dtu.fld fa52_1 (lk rfl)) rfl ?_
  refine Ops.d (Det.ld Try.isAgg50 (lk rfl) (Rd.ow 0 rfl rfl)) rfl ?_
  refine Ops.s (Stp.range 1 Try.underlying50 rfl (lk rfl) (fun b11 => ?_)) rfl
  refine Ops.nil ?_
  refine Then.next ?_
  refine Body.block ?_
  refine Body.addNil 22 1 none ?_
  refine Body.loopL (γ := List FE × Option (Int × Value) × List Nat × Value) [0, 2, 11] rfl (fun g => [(3, g.2.2.2)]) (fun g => [(0, osl 22 1 g.2.2.2 g.2.2.1.length (g.2.2.1.map u6)), (1, itr .u64 b11 y (fml es) (fml g.1) g.2.1)]) (fun _ => rfl) (fun _ _ => rfl) (fun g => (g.2.2.1 ++ g.1.map FE.id).Perm (es.map FE.id)) (fun g => g.1.length) ((es, none, [], .slice none 0 0)) (List.Perm.refl _) ⟨rfl, trivial⟩ rfl ?_
  rintro ⟨res, cur, out, v⟩ u hp
  dsimp only at hp ⊢
  have hol := hp.length_eq
  rw [List.length_append, List.length_map, List.length_map] at hol
  refine Body.seq ?_
  refine Body.region ?_
  refine Ops.s (Stp.next 1 rfl (lk rfl) (fun hz12 => ?_) (fun _ _ _ => rfl) (fun ra12 rc12 p12 hr12 => ?_)) rfl
  · have : res = [] := List.map_eq_nil_iff.1 hz12
    subst this
    rw [List.map_nil, List.append_nil] at hp
    refine Ops.u (Dtu.ext (lk rfl) rfl) rfl ?_
    refine Ops.nil ?_
    refine Then.next ?_
    refine Body.seq ?_
    refine Body.condF (lk rfl) ?_
    refine Body.exit ?_
    refine Then.exit ?_
    refine Round.exit ?_
    refine Blk.here ?_
    refine Then.next ?_
    refine Body.seq ?_
    refine Body.region ?_
    refine Ops.u (Dtu.mv (lk rfl)) rfl ?_
    refine Ops.s (Stp.callOwn [0] rfl rfl Try.call44 (lks rfl) (fun E' le hat => sort_ok E' _ _ (by first | with_reducible assumption | omega | assumption)) ?_) rfl
    rintro _ _ ⟨ys21, rfl, rfl, p21, s21⟩
    refine Ops.nil ?_
    refine Then.next ?_
    refine Body.seq ?_
    refine Body.region ?_
    refine Ops.u (Dtu.mv (lk rfl)) rfl ?_
    refine Ops.u (Dtu.asg (lk rfl)) rfl ?_
    refine Ops.nil ?_
    refine Then.next ?_
    refine Body.ret ?_
    refine ⟨.inr rfl, [osl 22 1 v out.length (ys21.map u6), own b [.int .u64 (x : Nat), .map (some y)] 52, omp .u64 y (fml es)], fun w s => ?_, ys21, by rw [← p21.length_eq]; rfl, sort_uniq (p21.trans hp) s21⟩
    have s1 : St E [osl 22 1 v out.length (ys21.map u6), itr .u64 b11 y (fml es) (fml []) cur, own b [.int .u64 (x : Nat), .map (some y)] 52] w := s
    exact (itr_omp (s1.perm (List.Perm.swap _ _ _))).perm (List.perm_append_comm (l₁ := [_]) (l₂ := [_, _]))
  · obtain ⟨a', e, c', rfl, rfl, rfl, rfl⟩ := fml_split hr12
    rw [← fml_app]
    refine Ops.u (Dtu.ext (lk rfl) rfl) rfl ?_
    refine Ops.nil ?_
    refine Then.next ?_
    refine Body.seq ?_
    refine Body.condT (lk rfl) ?_
    refine Body.skip ?_
    refine Then.next ?_
    refine Body.block ?_
    refine Body.seq ?_
    refine Body.region ?_
    refine Ops.d (Det.entry 1 rfl (lk rfl)) rfl ?_
    refine Ops.u (Dtu.ext (lk rfl) rfl) rfl ?_
    refine Ops.u (Dtu.asg (lk rfl)) rfl ?_
    refine Ops.nil ?_
    refine Then.next ?_
    refine Body.region ?_
    refine Ops.u (Dtu.mv (lk rfl)) rfl ?_
    refine Ops.u (Dtu.mv (lk rfl)) rfl ?_
    refine Ops.s (Stp.buildSliceO Try.underlying38 ty22 (by decide) (by decide) (lkp rfl) rfl rfl rfl (by decide) (fun v18 => ?_)) rfl
    refine Ops.s (Stp.append 1 Try.underlying38 ty22 rfl rfl (lk rfl) (lk rfl) (Sl.osl 0 rfl) (by first | rfl | exact all_map (fun _ => rfl) _ | exact all_flat (fun _ => rfl) _) (by omega) (by omega) (fun v19 => ?_)) rfl
    refine Ops.u (Dtu.asg (lk rfl)) rfl ?_
    refine Ops.nil ?_
    refine Blk.norm ?_
    refine Round.goL [1, 1, 1] (a' ++ c', some ((e.id : Int), e.ptr), out ++ [e.id], v19) rfl ⟨rfl, trivial⟩ rfl (by (try dsimp only); rw [List.length_append, List.map_append]; rfl) (by dsimp only; refine List.Perm.trans ?_ hp; simp only [List.map_append, List.map_cons, List.append_assoc, List.singleton_append]; exact List.Perm.append_left _ List.perm_middle.symm) (by simp)
theorem waits_ids {T : Tb} {es : List FE} {L : List HProp} (h : TabR T es L) : T.waits = (es.map FE.id).mergeSort fun a b => decide (a ≤ b) := by
  rw [Tb.waits, h.fs, List.map_map]; rfl
theorem waits_t (E : Env) (b : Nat) (T : Tb) : Does Try.prog 14 #[.pointer (some ⟨b, 0, none⟩)] E ([tabP b T]) fun r H' => H' = [osl 22 1 r T.waits.length (T.waits.map u6), tabP b T] := by
  refine Does.tab fun y es L hR => ?_
  have hl : es.length ≤ 4 := by have := hR.ok.len; rwa [hR.fs, List.length_map] at this
  refine Does.post (Does.fram (Hc := [own b [.int .u64 (T.floor : Nat), .map (some y)] 52, omp .u64 y (fml es)]) (Hf := [many (es.map FE.own), many L]) fun E' le hat => waits_o E' b y T.floor es hl) ?_
  rintro v _ ⟨A, ⟨ws, rfl, hw⟩, rfl⟩
  refine ⟨_, fun w s => ?_, rfl⟩
  rw [waits_ids hR, ← hw]
  exact (tabP_in (y := y) hR (s.perm (List.perm_append_comm (l₁ := [_]) (l₂ := [_, _, _, _])))).perm (List.Perm.swap _ _ _)
/-- does a table have a frame? -/
def Tb.find (T : Tb) (id : Nat) : Option FR := T.fs.find? fun F => F.id == id
def Tb.missing (T : Tb) (id : Nat) : Nat := match T.find id with
  | some F => F.left
  | none => 0
theorem find_cases {T : Tb} {es : List FE} {L : List HProp} (h : TabR T es L) (id : Nat) : (T.find id = none ∧ ∀ e ∈ es, e.id ≠ id) ∨ ∃ A e C, es = A ++ e :: C ∧ e.id = id ∧ T.find id = some e.F ∧ (∀ x ∈ A, x.id ≠ id) ∧ (∀ x ∈ C, x.id ≠ id) := by
  have hn := ents_nodup h
  have hf : T.find id = (es.find? fun e => e.id == id).map FE.F := by
    rw [Tb.find, h.fs, List.find?_map]; rfl
  cases hc : es.find? fun e => e.id == id with
  | none =>
    left
    refine ⟨by rw [hf, hc]; rfl, fun e he hi => ?_⟩
    have := List.find?_eq_none.1 hc e he
    simp [hi] at this
  | some e =>
    right
    obtain ⟨h1, A, C, h2, h3⟩ := List.find?_eq_some_iff_append.1 hc
    have hi : e.id = id := by simpa using h1
    refine ⟨A, e, C, h2, hi, by rw [hf, hc]; rfl, fun x hx => by have := h3 x hx; simpa using this, fun x hx he => ?_⟩
    rw [h2, List.map_append, List.map_cons, List.nodup_append, List.nodup_cons] at hn
    exact hn.2.1.1 (by rw [hi, ← he]; exact List.mem_map_of_mem hx)
theorem missing_n (E : Env) (b y x : Nat) (es : List FE) (id : Nat) (hA : At (own b [.int .u64 (x : Nat), .map (some y)] 52) E) (hM : Mp E [] .u64 y (fml es)) (hn : mget (fml es) (id : Int) = none) : Does Try.prog 19 #[.pointer (some ⟨b, 0, none⟩), .int .u64 (id : Nat)] E ([]) fun r H' => r = .int .i64 0 ∧ H' = [] := by
  refine Does.go _ _ Try.func19 rfl Try.ntmps19 rfl rfl ?_
  skip
  refine Body.seq ?_
  refine Body.region ?_
  refine Ops.u (Dtu.asg (lk rfl)) rfl ?_
  refine Ops.nil ?_
  refine Then.next ?_
  refine Body.seq ?_
  refine Body.seq ?_
  refine Body.region ?_
  refine Ops.u (Dtu.mv (lk rfl)) rfl ?_
  refine Ops.s (Stp.call rfl Try.call39 (lks rfl) (fun E' le hat => made_b E' _ _ _ (by first | exact At.mono (by assumption) le | exact hat _ (.head _) | exact hat _ (.tail _ (.head _)) | exact hat _ (.tail _ (.tail _ (.head _))) | exact hat _ (.tail _ (.tail _ (.tail _ (.head _)))) | exact hat _ (.tail _ (.tail _ (.tail _ (.tail _ (.head _))))) | exact hat _ (.tail _ (.tail _ (.tail _ (.tail _ (.tail _ (.head _)))))) | exact hat _ (.tail _ (.tail _ (.tail _ (.tail _ (.tail _ (.tail _ (.head _))))))) | exact hat _ (.tail _ (.tail _ (.tail _ (.tail _ (.tail _ (.tail _ (.tail _ (.head _)))))))) | exact hat _ (.tail _ (.tail _ (.tail _ (.tail _ (.tail _ (.tail _ (.tail _ (.tail _ (.head _))))))))) | exact hat _ (.tail _ (.tail _ (.tail _ (.tail _ (.tail _ (.tail _ (.tail _ (.tail _ (.tail _ (.head _)))))))))))) ?_) rfl
  rintro _ _ ⟨rfl, rfl⟩
  refine Ops.u (Dtu.not (lk rfl)) rfl ?_
  refine Ops.u (Dtu.mv (lk rfl)) rfl ?_
  refine Ops.gu rfl rfl rfl (Dtu.mv (lk rfl)) rfl ?_
  refine Ops.gu rfl rfl rfl (Dtu.nilck (lk rfl)) rfl ?_
  refine Ops.gu rfl rfl rfl (Dtu.fld fa52_1 (lk rfl)) rfl ?_
  refine Ops.gd rfl rfl rfl (Det.ld Try.isAgg50 (lk rfl) (Rd.env (own_at hA rfl))) rfl ?_
  refine Ops.gu rfl rfl rfl (Dtu.mv (lk rfl)) rfl ?_
  refine Ops.gd rfl rfl rfl (Det.lookN Try.underlying50 Try.underlying22 (Mp.up hM) (lk rfl) (lk rfl) (by with_reducible assumption) zv86) rfl ?_
  refine Ops.gu rfl rfl rfl (Dtu.eqNil Try.underlying86 (lk rfl) (lk rfl)) rfl ?_
  refine Ops.u (Dtu.pickF (lk rfl) (lk rfl)) rfl ?_
  refine Ops.nil ?_
  refine Then.next ?_
  refine Body.condT (lk rfl) ?_
  refine Body.seq ?_
  refine Body.region ?_
  refine Ops.u (Dtu.asg (lk rfl)) rfl ?_
  refine Ops.nil ?_
  refine Then.next ?_
  refine Body.ret ?_
  refine Then.ret ?_
  exact ⟨.inr rfl, _, pk [] rfl, rfl, rfl⟩
theorem missing_y (E : Env) (b y x : Nat) (es : List FE) (e : FE) (id : Nat) (hA : At (own b [.int .u64 (x : Nat), .map (some y)] 52) E) (hM : Mp E [] .u64 y (fml es)) (hn : mget (fml es) (id : Int) = some e.ptr) (hO : At e.own E) (hl : e.F.got.length = 64) (hp : e.ps.length = 64) : Does Try.prog 19 #[.pointer (some ⟨b, 0, none⟩), .int .u64 (id : Nat)] E ([]) fun r H' => r = .int .i64 (e.F.left : Nat) ∧ H' = [] := by
  have hO' : At (own e.b (cellsO e.F.cnt (e.F.got.map Option.isSome) e.ps (e.F.left : Nat)) 89) E := hO
  have hc := cO_left (cnt := e.F.cnt) (came := e.F.got.map Option.isSome) (ps := e.ps) (left := (e.F.left : Nat)) (by simpa using hl) hp
  refine Does.go _ _ Try.func19 rfl Try.ntmps19 rfl rfl ?_
  skip
  refine Body.seq ?_
  refine Body.region ?_
  refine Ops.u (Dtu.asg (lk rfl)) rfl ?_
  refine Ops.nil ?_
  refine Then.next ?_
  refine Body.seq ?_
  refine Body.seq ?_
  refine Body.region ?_
  refine Ops.u (Dtu.mv (lk rfl)) rfl ?_
  refine Ops.s (Stp.call rfl Try.call39 (lks rfl) (fun E' le hat => made_b E' _ _ _ (by first | exact At.mono (by assumption) le | exact hat _ (.head _) | exact hat _ (.tail _ (.head _)) | exact hat _ (.tail _ (.tail _ (.head _))) | exact hat _ (.tail _ (.tail _ (.tail _ (.head _)))) | exact hat _ (.tail _ (.tail _ (.tail _ (.tail _ (.head _))))) | exact hat _ (.tail _ (.tail _ (.tail _ (.tail _ (.tail _ (.head _)))))) | exact hat _ (.tail _ (.tail _ (.tail _ (.tail _ (.tail _ (.tail _ (.head _))))))) | exact hat _ (.tail _ (.tail _ (.tail _ (.tail _ (.tail _ (.tail _ (.tail _ (.head _)))))))) | exact hat _ (.tail _ (.tail _ (.tail _ (.tail _ (.tail _ (.tail _ (.tail _ (.tail _ (.head _))))))))) | exact hat _ (.tail _ (.tail _ (.tail _ (.tail _ (.tail _ (.tail _ (.tail _ (.tail _ (.tail _ (.head _)))))))))))) ?_) rfl
  rintro _ _ ⟨rfl, rfl⟩
  refine Ops.u (Dtu.not (lk rfl)) rfl ?_
  refine Ops.u (Dtu.mv (lk rfl)) rfl ?_
  refine Ops.gu rfl rfl rfl (Dtu.mv (lk rfl)) rfl ?_
  refine Ops.gu rfl rfl rfl (Dtu.nilck (lk rfl)) rfl ?_
  refine Ops.gu rfl rfl rfl (Dtu.fld fa52_1 (lk rfl)) rfl ?_
  refine Ops.gd rfl rfl rfl (Det.ld Try.isAgg50 (lk rfl) (Rd.env (own_at hA rfl))) rfl ?_
  refine Ops.gu rfl rfl rfl (Dtu.mv (lk rfl)) rfl ?_
  refine Ops.gd rfl rfl rfl (Det.lookY Try.underlying50 Try.underlying22 (Mp.up hM) (lk rfl) (lk rfl) (by with_reducible assumption)) rfl ?_
  refine Ops.gu rfl rfl rfl (Dtu.eqNil Try.underlying86 (lk rfl) (lk rfl)) rfl ?_
  refine Ops.u (Dtu.pickF (lk rfl) (lk rfl)) rfl ?_
  refine Ops.nil ?_
  refine Then.next ?_
  refine Body.condF (lk rfl) ?_
  refine Body.skip ?_
  refine Then.next ?_
  refine Body.seq ?_
  refine Body.region ?_
  refine Ops.u (Dtu.mv (lk rfl)) rfl ?_
  refine Ops.u (Dtu.nilck (lk rfl)) rfl ?_
  refine Ops.u (Dtu.fld fa52_1 (lk rfl)) rfl ?_
  refine Ops.d (Det.ld Try.isAgg50 (lk rfl) (Rd.env (own_at hA rfl))) rfl ?_
  refine Ops.u (Dtu.mv (lk rfl)) rfl ?_
  refine Ops.d (Det.lookY Try.underlying50 Try.underlying22 (Mp.up hM) (lk rfl) (lk rfl) (by with_reducible assumption)) rfl ?_
  refine Ops.u (Dtu.nilck (lk rfl)) rfl ?_
  refine Ops.u (Dtu.fld fa89_3 (lk rfl)) rfl ?_
  refine Ops.d (Det.ld Try.isAgg3 (lk rfl) (Rd.env (own_at hO' (cellEq hc (by omega))))) rfl ?_
  refine Ops.u (Dtu.asg (lk rfl)) rfl ?_
  refine Ops.nil ?_
  refine Then.next ?_
  refine Body.ret ?_
  exact ⟨.inr rfl, _, pk [] rfl, rfl, rfl⟩
theorem ownAt {es : List FE} {A C : List FE} {e : FE} {E : Env} (h : At (many (es.map FE.own)) E) (he : es = A ++ e :: C) : At e.own E := poolAt h _ (by rw [he]; exact List.mem_map_of_mem (by simp))
theorem tabAt {E : Env} {b : Nat} {T : Tb} (h : At (tabP b T) E) : ∃ y es L, TabR T es L ∧ At (own b [.int .u64 (T.floor : Nat), .map (some y)] 52) E ∧ At (omp .u64 y (fml es)) E ∧ At (many (es.map FE.own)) E ∧ At (many L) E := by
  obtain ⟨x, ⟨y, es, L, hi, hs⟩, le⟩ := h
  obtain ⟨h1, h2, a1, ⟨h3, h4, a2, ⟨h5, h6, a3, ⟨h7, h8, a4, e4, d4, rfl⟩, d3, rfl⟩, d2, rfl⟩, d1, rfl⟩ := hs
  have l1 := (Hp.le_union_left h1 _).trans le
  have l2 := (Hp.le_union_right d1).trans le
  have l3 := (Hp.le_union_left h3 _).trans l2
  have l4 := (Hp.le_union_right d2).trans l2
  have l5 := (Hp.le_union_left h5 _).trans l4
  have l6 := (Hp.le_union_right d3).trans l4
  have l7 := (Hp.le_union_left h7 _).trans l6
  exact ⟨y, es, L, hi, ⟨h1, a1, l1⟩, ⟨h3, a2, l3⟩, ⟨h5, a3, l5⟩, ⟨h7, a4, l7⟩⟩
theorem floor_r (E : Env) (b : Nat) (T : Tb) (hA : At (tabP b T) E) : Does Try.prog 13 #[.pointer (some ⟨b, 0, none⟩)] E ([]) fun r H' => r = .int .u64 (T.floor : Nat) ∧ H' = [] := by
  obtain ⟨y, es, L, hR, h1, h2, h3, h4⟩ := tabAt hA
  exact floor_b E b y T h1
theorem made_r (E : Env) (b : Nat) (T : Tb) (hA : At (tabP b T) E) : Does Try.prog 39 #[.pointer (some ⟨b, 0, none⟩)] E ([]) fun r H' => r = .bool true ∧ H' = [] := by
  obtain ⟨y, es, L, hR, h1, h2, h3, h4⟩ := tabAt hA
  exact made_b E b y _ h1
theorem missing_r (E : Env) (b : Nat) (T : Tb) (id : Nat) (hA : At (tabP b T) E) : Does Try.prog 19 #[.pointer (some ⟨b, 0, none⟩), .int .u64 (id : Nat)] E ([]) fun r H' => r = .int .i64 (T.missing id : Nat) ∧ H' = [] := by
  obtain ⟨y, es, L, hR, h1, h2, h3, h4⟩ := tabAt hA
  rcases find_cases hR id with ⟨q1, q2⟩ | ⟨A, e, C, he, hid, hf, hA, hC⟩
  · have := missing_n E b y T.floor es id h1 (Mp.at h2) (mget_fml_none q2)
    rw [Tb.missing, q1]; exact this
  · have hm : mget (fml es) (id : Int) = some e.ptr := by rw [he, ← hid]; exact mget_fml_some (fun x hx => by rw [hid]; exact hA x hx)
    have hme : e ∈ es := by rw [he]; simp
    have := missing_y E b y T.floor es e id h1 (Mp.at h2) hm (ownAt h3 he) (hR.ok.ok _ (by rw [hR.fs]; exact List.mem_map_of_mem hme)).len (hR.rep e hme).len
    rw [Tb.missing, hf]; exact this
/-- room for one more -/
def Tb.full (T : Tb) (id : Nat) : Bool := decide (4 ≤ T.fs.length ∧ id < T.waits[0]!)
def Tb.room (T : Tb) : Tb := if T.fs.length < 4 then T else T.raise (T.waits[0]! + 1)
theorem Tb.waits_len (T : Tb) : T.waits.length = T.fs.length := by
  have := (List.mergeSort_perm (T.fs.map FR.id) fun a b => decide (a ≤ b)).length_eq
  rw [List.length_map] at this
  exact this
theorem Tb.waits_mem {T : Tb} {x : Nat} : x ∈ T.waits ↔ ∃ F ∈ T.fs, F.id = x := by
  rw [Tb.waits, (List.mergeSort_perm _ _).mem_iff, List.mem_map]
theorem Tb.waits_ok {T : Tb} (h : T.Ok) : ∀ x ∈ T.waits, T.floor ≤ x ∧ x ≤ 4611686018427387903 := fun x hx => by
  obtain ⟨F, hF, rfl⟩ := Tb.waits_mem.1 hx
  exact ⟨h.ge F hF, (h.ok F hF).i1⟩
theorem room_t (E : Env) (b id : Nat) (T : Tb) (ok : T.Ok) : Does Try.prog 41 #[.pointer (some ⟨b, 0, none⟩), .int .u64 (id : Nat)] E ([tabP b T]) fun r H' => r = .int .i64 (if T.full id then 5 else 0) ∧ H' = [tabP b (if T.full id then T else T.room)] := by
  have hwl := T.waits_len
  by_cases h4 : T.fs.length < 4
  · have hf : T.full id = false := decide_eq_false fun h => by omega
    have hr : T.room = T := if_pos h4
    rw [hf, hr]
    refine Does.go _ _ Try.func41 rfl Try.ntmps41 rfl rfl ?_
    skip
    refine Body.seq ?_
    refine Body.region ?_
    refine Ops.u (Dtu.asg (lk rfl)) rfl ?_
    refine Ops.nil ?_
    refine Then.next ?_
    refine Body.seq ?_
    refine Body.region ?_
    refine Ops.u (Dtu.mv (lk rfl)) rfl ?_
    refine Ops.s (Stp.callOwn [0] rfl rfl Try.call14 (lks rfl) (fun E' le hat => waits_t E' _ _) ?_) rfl
    rintro _ _ rfl
    refine Ops.u (Dtu.asg (lk rfl)) rfl ?_
    refine Ops.nil ?_
    refine Then.next ?_
    refine Body.seq ?_
    refine Body.seq ?_
    refine Body.region ?_
    refine Ops.u (Dtu.mv (lk rfl)) rfl ?_
    refine Ops.u (Dtu.lenS Try.underlying38 (Sl.osl 0 rfl) (lk rfl)) rfl ?_
    refine Ops.u (Dtu.lss (lk rfl) (lk rfl)) rfl ?_
    refine Ops.nil ?_
    refine Then.next ?_
    refine Body.condP (lk rfl) (fun _ => ?_) (fun hn => absurd (by first | omega | assumption | decide) hn)
    refine Body.seq ?_
    refine Body.region ?_
    refine Ops.u (Dtu.asg (lk rfl)) rfl ?_
    refine Ops.nil ?_
    refine Then.next ?_
    refine Body.ret ?_
    refine Then.ret ?_
    exact ⟨.inr rfl, _, pk [1] rfl, rfl, rfl⟩
  · have hw0 := T.waits_ok ok T.waits[0]! (by rw [getElem!_pos T.waits 0 (by omega)]; exact List.getElem_mem _)
    have hr : T.room = T.raise (T.waits[0]! + 1) := if_neg h4
    rw [hr]
    by_cases hi : id < T.waits[0]!
    · have hf : T.full id = true := decide_eq_true ⟨by omega, hi⟩
      rw [hf]
      refine Does.go _ _ Try.func41 rfl Try.ntmps41 rfl rfl ?_
      skip
      refine Body.seq ?_
      refine Body.region ?_
      refine Ops.u (Dtu.asg (lk rfl)) rfl ?_
      refine Ops.nil ?_
      refine Then.next ?_
      refine Body.seq ?_
      refine Body.region ?_
      refine Ops.u (Dtu.mv (lk rfl)) rfl ?_
      refine Ops.s (Stp.callOwn [0] rfl rfl Try.call14 (lks rfl) (fun E' le hat => waits_t E' _ _) ?_) rfl
      rintro _ _ rfl
      refine Ops.u (Dtu.asg (lk rfl)) rfl ?_
      refine Ops.nil ?_
      refine Then.next ?_
      refine Body.seq ?_
      refine Body.seq ?_
      refine Body.region ?_
      refine Ops.u (Dtu.mv (lk rfl)) rfl ?_
      refine Ops.u (Dtu.lenS Try.underlying38 (Sl.osl 0 rfl) (lk rfl)) rfl ?_
      refine Ops.u (Dtu.lss (lk rfl) (lk rfl)) rfl ?_
      refine Ops.nil ?_
      refine Then.next ?_
      refine Body.condP (lk rfl) (fun hy => absurd hy (by first | omega | assumption | decide)) (fun _ => ?_)
      refine Body.skip ?_
      refine Then.next ?_
      refine Body.seq ?_
      refine Body.seq ?_
      refine Body.region ?_
      refine Ops.u (Dtu.mv (lk rfl)) rfl ?_
      refine Ops.u (Dtu.mv (lk rfl)) rfl ?_
      refine Ops.u (Dtu.ix (i := 0) Try.underlying38 Try.sizeOf22 (Sl.osl 0 rfl) (lk rfl) (lk rfl) (by omega) (by omega)) rfl ?_
      refine Ops.d (Det.ld Try.isAgg22 (lk rfl) (Rd.sl (Sl.osl 0 rfl) (gm (by omega)))) rfl ?_
      refine Ops.u (Dtu.lss (lk rfl) (lk rfl)) rfl ?_
      refine Ops.nil ?_
      refine Then.next ?_
      refine Body.condP (lk rfl) (fun _ => ?_) (fun hn => absurd (by first | omega | assumption | decide) hn)
      refine Body.seq ?_
      refine Body.region ?_
      refine Ops.u (Dtu.asg (lk rfl)) rfl ?_
      refine Ops.nil ?_
      refine Then.next ?_
      refine Body.ret ?_
      refine Then.ret ?_
      exact ⟨.inr rfl, _, pk [1] rfl, rfl, rfl⟩
    · have hf : T.full id = false := decide_eq_false fun h => hi h.2
      rw [hf]
      refine Does.go _ _ Try.func41 rfl Try.ntmps41 rfl rfl ?_
      skip
      refine Body.seq ?_
      refine Body.region ?_
      refine Ops.u (Dtu.asg (lk rfl)) rfl ?_
      refine Ops.nil ?_
      refine Then.next ?_
      refine Body.seq ?_
      refine Body.region ?_
      refine Ops.u (Dtu.mv (lk rfl)) rfl ?_
      refine Ops.s (Stp.callOwn [0] rfl rfl Try.call14 (lks rfl) (fun E' le hat => waits_t E' _ _) ?_) rfl
      rintro _ _ rfl
      refine Ops.u (Dtu.asg (lk rfl)) rfl ?_
      refine Ops.nil ?_
      refine Then.next ?_
      refine Body.seq ?_
      refine Body.seq ?_
      refine Body.region ?_
      refine Ops.u (Dtu.mv (lk rfl)) rfl ?_
      refine Ops.u (Dtu.lenS Try.underlying38 (Sl.osl 0 rfl) (lk rfl)) rfl ?_
      refine Ops.u (Dtu.lss (lk rfl) (lk rfl)) rfl ?_
      refine Ops.nil ?_
      refine Then.next ?_
      refine Body.condP (lk rfl) (fun hy => absurd hy (by first | omega | assumption | decide)) (fun _ => ?_)
      refine Body.skip ?_
      refine Then.next ?_
      refine Body.seq ?_
      refine Body.seq ?_
      refine Body.region ?_
      refine Ops.u (Dtu.mv (lk rfl)) rfl ?_
      refine Ops.u (Dtu.mv (lk rfl)) rfl ?_
      refine Ops.u (Dtu.ix (i := 0) Try.underlying38 Try.sizeOf22 (Sl.osl 0 rfl) (lk rfl) (lk rfl) (by omega) (by omega)) rfl ?_
      refine Ops.d (Det.ld Try.isAgg22 (lk rfl) (Rd.sl (Sl.osl 0 rfl) (gm (by omega)))) rfl ?_
      refine Ops.u (Dtu.lss (lk rfl) (lk rfl)) rfl ?_
      refine Ops.nil ?_
      refine Then.next ?_
      refine Body.condP (lk rfl) (fun hy => absurd hy (by first | omega | assumption | decide)) (fun _ => ?_)
      refine Body.skip ?_
      refine Then.next ?_
      refine Body.seq ?_
      refine Body.region ?_
      refine Ops.u (Dtu.mv (lk rfl)) rfl ?_
      refine Ops.u (Dtu.mv (lk rfl)) rfl ?_
      refine Ops.u (Dtu.ix (i := 0) Try.underlying38 Try.sizeOf22 (Sl.osl 0 rfl) (lk rfl) (lk rfl) (by omega) (by omega)) rfl ?_
      refine Ops.d (Det.ld Try.isAgg22 (lk rfl) (Rd.sl (Sl.osl 0 rfl) (gm (by omega)))) rfl ?_
      refine Ops.u (Dtu.add (lk rfl) (lk rfl) (wu64 (by omega) (by omega))) rfl ?_
      refine Ops.s (Stp.callOwn [1] rfl rfl Try.call43 (lks rfl) (fun E' le hat => raise_t E' b (T.waits[0]! + 1) T (by omega) (by omega)) ?_) rfl
      rintro _ _ ⟨rfl, rfl⟩
      refine Ops.nil ?_
      refine Then.next ?_
      refine Body.seq ?_
      refine Body.region ?_
      refine Ops.u (Dtu.asg (lk rfl)) rfl ?_
      refine Ops.nil ?_
      refine Then.next ?_
      refine Body.ret ?_
      exact ⟨.inr rfl, _, pk [0] rfl, rfl, rfl⟩
end Go.Proofs.Ytagcpamchgpgiaa
end
section
/- What a table does with a part: the plain law. -/
namespace Go.Proofs.Ytagcpamchgpgiaa
set_option maxRecDepth 100000
set_option maxHeartbeats 4000000
set_option linter.unusedVariables false
set_option linter.unusedSimpArgs false
open Go.Sx
def FR.new (id cnt : Nat) : FR := ⟨id, cnt, List.replicate 64 none⟩
def FR.put (F : FR) (i : Nat) (d : List Int) : FR := ⟨F.id, F.cnt, F.got.set i (some d)⟩
def FR.frame (F : FR) : List Int := (F.got.take F.cnt).flatMap fun o => o.getD []
def Tb.upd (T : Tb) (F' : FR) : Tb := ⟨T.floor, T.fs.map fun G => if G.id = F'.id then F' else G⟩
def Tb.add (T : Tb) (F : FR) : Tb := ⟨T.floor, T.fs ++ [F]⟩
structure PutR where
  out : List Int
  is : Bool
  e : Int
def Tb.fin (T : Tb) (F' : FR) : PutR × Tb := if 0 < F'.left then (⟨[], false, 0⟩, T.upd F') else (⟨F'.frame, true, 0⟩, (T.upd F').raise (F'.id + 1))
def Tb.put (T : Tb) (p : Prt) : PutR × Tb :=
  if p.Ok then
    if p.id < T.floor then (⟨[], false, 23⟩, T)
    else match T.find p.id with
      | none => if T.full p.id then (⟨[], false, 5⟩, T) else (T.room.add (FR.new p.id p.ct.toNat)).fin ((FR.new p.id p.ct.toNat).put p.ix.toNat p.d)
      | some F => if (F.cnt : Int) ≠ p.ct then (⟨[], false, 1⟩, T) else if (F.got[p.ix.toNat]!).isSome then (⟨[], false, 7⟩, T) else T.fin (F.put p.ix.toNat p.d)
  else (⟨[], false, 3⟩, T)
theorem FR.new_ok {p : Prt} (h : p.Ok) : (FR.new p.id p.ct.toNat).Ok := by
  have := h.c0; have := h.c1
  exact ⟨by simp [FR.new], by simp only [FR.new]; omega, by simp only [FR.new]; omega, h.i0, h.i1, fun i d hi => by
    have hi : (List.replicate 64 (none : Option (List Int)))[i]? = some (some d) := hi
    rw [List.getElem?_replicate] at hi
    split at hi <;> simp at hi⟩
theorem FR.put_ok {F : FR} {p : Prt} (h : p.Ok) (hF : F.Ok) (hc : (F.cnt : Int) = p.ct) : (F.put p.ix.toNat p.d).Ok := by
  have h1 := h.x0; have h2 := h.x1; have h3 := h.d0; have h4 := h.d1; have h5 := h.d2
  refine ⟨by simp [FR.put, hF.len], hF.c0, hF.c1, hF.i0, hF.i1, fun i d hi => ?_⟩
  simp only [FR.put, List.getElem?_set] at hi ⊢
  split at hi
  · rename_i e
    subst e
    rw [if_pos (by rw [hF.len]; have := hF.c1; omega)] at hi
    have e := Option.some.inj (Option.some.inj hi)
    subst e
    exact ⟨by omega, h3, fun h => by have := h4 h; omega, h5.imp (fun h => h) fun h => by omega⟩
  · exact hF.g i d hi
theorem FR.left_pos {F : FR} (hF : F.Ok) {i : Nat} (hi : i < F.cnt) (hn : F.got[i]! = none) : F.got.countP Option.isSome + 1 ≤ F.cnt := by
  have hlen := hF.len
  have hc1 := hF.c1
  have hil : i < F.got.length := by omega
  rw [getElem!_pos F.got i hil] at hn
  -- all that came lie below cnt
  have h1 : F.got.countP Option.isSome = (F.got.take F.cnt).countP Option.isSome := by
    conv => lhs; rw [← List.take_append_drop F.cnt F.got]
    rw [List.countP_append]
    have : (F.got.drop F.cnt).countP Option.isSome = 0 := by
      rw [List.countP_eq_zero]
      intro a ha
      obtain ⟨j, hj, rfl⟩ := List.getElem_of_mem ha
      rw [List.getElem_drop]
      intro hs
      obtain ⟨d, hd⟩ := Option.isSome_iff_exists.1 hs
      have := (hF.g (F.cnt + j) d (by rw [List.getElem?_eq_getElem (by simp at hj; omega), hd])).1
      omega
    omega
  have h2 : (F.got.take F.cnt).countP Option.isSome < (F.got.take F.cnt).length := by
    have hle := List.countP_le_length (p := Option.isSome) (l := F.got.take F.cnt)
    rcases Nat.lt_or_ge ((F.got.take F.cnt).countP Option.isSome) (F.got.take F.cnt).length with h | h
    · exact h
    · have he : (F.got.take F.cnt).countP Option.isSome = (F.got.take F.cnt).length := by omega
      rw [List.countP_eq_length] at he
      have := he F.got[i] (by rw [List.mem_take_iff_getElem]; exact ⟨i, by omega, rfl⟩)
      rw [hn] at this; simp at this
  rw [List.length_take] at h2
  omega
theorem FR.put_left {F : FR} (hF : F.Ok) {i : Nat} {d : List Int} (hi : i < F.cnt) (hn : F.got[i]! = none) : (F.put i d).left + 1 = F.left := by
  have h1 := F.left_pos hF hi hn
  have hlen := hF.len
  have hc1 := hF.c1
  have hil : i < F.got.length := by omega
  simp only [FR.left, FR.put]
  rw [List.countP_set hil, ← getElem!_pos F.got i hil, hn]
  simp
  omega
theorem FR.all_came {F : FR} (hF : F.Ok) (h0 : F.left = 0) : ∀ i, i < F.cnt → ∃ d, F.got[i]? = some (some d) := fun i hi => by
  have hlen := hF.len
  have hc1 := hF.c1
  have hil : i < F.got.length := by omega
  cases hc : F.got[i]! with
  | none => have := F.left_pos hF hi hc; simp only [FR.left] at h0; omega
  | some d =>
    rw [getElem!_pos F.got i hil] at hc
    exact ⟨d, by rw [List.getElem?_eq_getElem hil, hc]⟩
theorem FR.put_got {F : FR} {i : Nat} {d : List Int} (hi : i < F.got.length) : (F.put i d).got[i]? = some (some d) := by simp [FR.put, hi]
/-- the frame that is turned -/
theorem upd_at {A C : List FR} {F F' : FR} {fl : Nat} (hid : F'.id = F.id) (hA : ∀ x ∈ A, x.id ≠ F.id) (hC : ∀ x ∈ C, x.id ≠ F.id) : (⟨fl, A ++ F :: C⟩ : Tb).upd F' = ⟨fl, A ++ F' :: C⟩ := by
  simp only [Tb.upd, List.map_append, List.map_cons, hid, if_true]
  congr 1
  have h : ∀ l : List FR, (∀ x ∈ l, x.id ≠ F.id) → l.map (fun G => if G.id = F.id then F' else G) = l := fun l hl => by
    refine (List.map_congr_left fun x hx => if_neg (hl x hx)).trans (List.map_id _)
  rw [h A hA, h C hC]
theorem ok_at {A C : List FR} {F F' : FR} {fl : Nat} (h : (⟨fl, A ++ F :: C⟩ : Tb).Ok) (hid : F'.id = F.id) (hF : F'.Ok) : (⟨fl, A ++ F' :: C⟩ : Tb).Ok := by
  refine ⟨h.f0, h.fl, by have := h.len; simpa using this, by have := h.nd; simpa [hid] using this, fun G hG => ?_, fun G hG => ?_⟩
  · rcases List.mem_append.1 hG with hG | hG
    · exact h.ok G (List.mem_append_left _ hG)
    · rcases List.mem_cons.1 hG with rfl | hG
      · exact hF
      · exact h.ok G (List.mem_append_right _ (.tail _ hG))
  · rcases List.mem_append.1 hG with hG | hG
    · exact h.ge G (List.mem_append_left _ hG)
    · rcases List.mem_cons.1 hG with rfl | hG
      · rw [hid]; exact h.ge F (List.mem_append_right _ (.head _))
      · exact h.ge G (List.mem_append_right _ (.tail _ hG))
theorem Tb.room_ok {T : Tb} (h : T.Ok) : T.room.Ok := by
  unfold Tb.room
  split
  · exact h
  · have hw0 := T.waits_ok h T.waits[0]! (by rw [getElem!_pos T.waits 0 (by rw [T.waits_len]; omega)]; exact List.getElem_mem _)
    exact h.raise (by omega) (by omega)
theorem Tb.room_le (T : Tb) : ∀ F ∈ T.room.fs, F ∈ T.fs := fun F hF => by
  unfold Tb.room at hF
  split at hF
  · exact hF
  · exact (List.mem_filter.1 hF).1
theorem Tb.room_len {T : Tb} (h : T.Ok) : T.room.fs.length ≤ 3 := by
  have hl := h.len
  unfold Tb.room
  split
  · omega
  · have hm : T.waits[0]! ∈ T.waits := by rw [getElem!_pos T.waits 0 (by rw [T.waits_len]; omega)]; exact List.getElem_mem _
    obtain ⟨F, hF, he⟩ := Tb.waits_mem.1 hm
    have : (T.fs.filter fun F => decide (T.waits[0]! + 1 ≤ F.id)).length < T.fs.length := by
      rw [List.length_filter_lt_length_iff_exists]
      exact ⟨F, hF, by rw [decide_eq_true_iff]; omega⟩
    simp only [Tb.raise]; omega
theorem Tb.room_floor {T : Tb} (h : T.Ok) {id : Nat} (hge : T.floor ≤ id) (hf : T.full id = false) (hn : ∀ F ∈ T.fs, F.id ≠ id) : T.room.floor ≤ id := by
  unfold Tb.room
  split
  · exact hge
  · rename_i h4
    have hm : T.waits[0]! ∈ T.waits := by rw [getElem!_pos T.waits 0 (by rw [T.waits_len]; omega)]; exact List.getElem_mem _
    obtain ⟨F, hF, he⟩ := Tb.waits_mem.1 hm
    have h1 : ¬ (4 ≤ T.fs.length ∧ id < T.waits[0]!) := of_decide_eq_false hf
    have h2 := hn F hF
    simp only [Tb.raise]; omega
theorem Tb.add_ok {T : Tb} (h : T.Ok) (hl : T.fs.length ≤ 3) {F : FR} (hF : F.Ok) (hge : T.floor ≤ F.id) (hn : ∀ G ∈ T.fs, G.id ≠ F.id) : (T.add F).Ok := by
  refine ⟨h.f0, h.fl, by simp [Tb.add]; omega, ?_, fun G hG => ?_, fun G hG => ?_⟩
  · simp only [Tb.add, List.map_append, List.map_cons, List.map_nil]
    rw [List.nodup_append]
    refine ⟨h.nd, by simp, fun a ha b hb => ?_⟩
    obtain ⟨G, hG, rfl⟩ := List.mem_map.1 ha
    rw [List.mem_singleton.1 hb]
    exact hn G hG
  · rcases List.mem_append.1 hG with hG | hG
    · exact h.ok G hG
    · rw [List.mem_singleton.1 hG]; exact hF
  · rcases List.mem_append.1 hG with hG | hG
    · exact h.ge G hG
    · rw [List.mem_singleton.1 hG]; exact hge
/-- the parts of a whole frame -/
theorem whole_ok {F : FR} {ps : List Prt} {L : List HProp} {b : Nat} (hF : F.Ok) (hR : (⟨F, b, ps⟩ : FE).Rep L) (h0 : F.left = 0) :
    JoinOk (ps.take F.cnt) ∧ (ps.take F.cnt).length = F.cnt ∧ (ps.take F.cnt).flatMap Prt.d = F.frame ∧ ∀ p ∈ ps.take F.cnt, osl 5 1 p.s p.d.length (u8s p.d) ∈ L := by
  have hpl : ps.length = 64 := hR.len
  have hc1 := hF.c1
  have hc0 := hF.c0
  have hl : (ps.take F.cnt).length = F.cnt := by rw [List.length_take]; omega
  have key : ∀ i, i < F.cnt → ∃ d s, F.got[i]? = some (some d) ∧ ps[i]? = some (⟨F.id, ((i : Nat) : Int), ((F.cnt : Nat) : Int), d, s⟩ : Prt) ∧ osl 5 1 s d.length (u8s d) ∈ L := fun i hi => by
    obtain ⟨d, hd⟩ := F.all_came hF h0 i hi
    obtain ⟨s, h1, h2⟩ := hR.p i d hd
    exact ⟨d, s, hd, h1, h2⟩
  have hat : ∀ i, i < F.cnt → ∃ d s, F.got[i]? = some (some d) ∧ (ps.take F.cnt)[i]! = (⟨F.id, ((i : Nat) : Int), ((F.cnt : Nat) : Int), d, s⟩ : Prt) ∧ osl 5 1 s d.length (u8s d) ∈ L := fun i hi => by
    obtain ⟨d, s, h1, h2, h3⟩ := key i hi
    refine ⟨d, s, h1, ?_, h3⟩
    rw [getElem!_pos _ i (by omega), List.getElem_take]
    rw [List.getElem?_eq_getElem (by omega)] at h2
    exact Option.some.inj h2
  refine ⟨fun k hk => ?_, hl, ?_, fun p hp => ?_⟩
  · rw [hl] at hk
    obtain ⟨d, s, h1, h2, h3⟩ := hat k hk
    obtain ⟨d0, s0, g1, g2, g3⟩ := hat 0 (by omega)
    rw [h2, g2, hl]
    obtain ⟨q1, q2, q3, q4⟩ := hF.g k d h1
    exact ⟨⟨hF.i0, hF.i1, by dsimp only; omega, by dsimp only; omega, by dsimp only; omega, by dsimp only; omega, q2, fun h => by have := q3 h; dsimp only; omega, q4.imp (fun h => h) fun h => by dsimp only; omega⟩, rfl, rfl, rfl⟩
  · unfold FR.frame
    have : (ps.take F.cnt).map Prt.d = (F.got.take F.cnt).map fun o => o.getD [] := by
      refine List.ext_getElem? fun i => ?_
      rw [List.getElem?_map, List.getElem?_map, List.getElem?_take, List.getElem?_take]
      split
      · rename_i hi
        obtain ⟨d, s, h1, h2, h3⟩ := key i hi
        rw [h1, h2]; rfl
      · rfl
    rw [List.flatMap_def, List.flatMap_def, this]
  · obtain ⟨i, hi, rfl⟩ := List.getElem_of_mem hp
    obtain ⟨d, s, h1, h2, h3⟩ := hat i (by omega)
    rw [getElem!_pos _ i hi] at h2
    rw [h2]; exact h3
/-- a part more in a frame -/
theorem rep_put {F : FR} {b : Nat} {ps : List Prt} {L : List HProp} {p : Prt} {s : Value} (hR : (⟨F, b, ps⟩ : FE).Rep L) (hg : F.got.length = 64) (hi : p.ix.toNat < 64) (h0 : 0 ≤ p.ix) (hid : p.id = F.id) (hc : (F.cnt : Int) = p.ct) (hs : osl 5 1 s p.d.length (u8s p.d) ∈ L) :
    (⟨F.put p.ix.toNat p.d, b, ps.set p.ix.toNat ⟨p.id, p.ix, p.ct, p.d, s⟩⟩ : FE).Rep L := by
  have hpl : ps.length = 64 := hR.len
  refine ⟨by simp [hpl], fun i d h => ?_⟩
  simp only [FR.put, List.getElem?_set] at h ⊢
  split at h
  · rename_i e
    subst e
    rw [if_pos (by omega)] at h
    have e := Option.some.inj (Option.some.inj h)
    subst e
    refine ⟨s, ?_, hs⟩
    rw [if_pos rfl, if_pos (by omega)]
    rw [hid, ← hc, Int.toNat_of_nonneg h0]
  · rename_i e
    rw [if_neg e]
    exact hR.p i d h
end Go.Proofs.Ytagcpamchgpgiaa
end
section
/- join.Table.Put: the walk. -/
namespace Go.Proofs.Ytagcpamchgpgiaa
set_option maxRecDepth 100000
set_option maxHeartbeats 4000000
set_option linter.unusedVariables false
set_option linter.unusedSimpArgs false
open Go.Sx
section
variable {P : Program} {n : Nat} {f : Fr} {E : Env} {H : List HProp} {d : Option Nat} {ty : TypeId} {pos : String} {aft : Array Edge} {g : Option (Nat × Bool)} {K : Kont}
theorem Body.tabI (i : Nat) {b : Nat} {T : Tb} {c : Code} (hi : H[i]? = some (tabP b T)) {Hf : List HProp} (hp : pick [i] H = some ([tabP b T], Hf))
    (h : ∀ y es L, TabR T es L → Body P n c f E (own b [.int .u64 (T.floor : Nat), .map (some y)] 52 :: omp .u64 y (fml es) :: many (es.map FE.own) :: many L :: Hf) K) : Body P n c f E H K := fun w a r d s =>
  let ⟨y, es, L, hi, s2⟩ := tabP_out (s.perm (pick_perm hp)); h y es L hi w a r d s2
end
def prt0 : Prt := ⟨0, 0, 0, [], .slice none 0 0⟩
theorem fe_take {A C : List FE} {e : FE} {E : Env} {H : List HProp} {w : World} (s : St E (many ((A ++ e :: C).map FE.own) :: H) w) : St E (e.own :: many ((A ++ C).map FE.own) :: H) w := by
  refine poolOut (poolPerm ?_ s)
  rw [List.map_append (l₂ := e :: C), List.map_cons, List.map_append]
  exact List.perm_middle
theorem fe_put {A C : List FE} {e : FE} {E : Env} {H : List HProp} {w : World} (s : St E (e.own :: many ((A ++ C).map FE.own) :: H) w) : St E (many ((A ++ e :: C).map FE.own) :: H) w := by
  refine poolPerm ?_ (poolCons s)
  rw [List.map_append (l₂ := e :: C), List.map_cons, List.map_append]
  exact List.perm_middle.symm
theorem own_snoc (es : List FE) (e : FE) : es.map FE.own ++ [e.own] = (es ++ [e]).map FE.own := by rw [List.map_append]; rfl
theorem fml_same {A C : List FE} {e e' : FE} (h1 : e'.F.id = e.F.id) (h2 : e'.b = e.b) : fml (A ++ e' :: C) = fml (A ++ e :: C) := by
  simp only [fml, List.map_append, List.map_cons, FE.id, FE.ptr, h1, h2]
theorem perm4 {α : Type} (a b c d : α) (H : List α) : (a :: b :: c :: d :: H).Perm (c :: d :: a :: b :: H) := by
  have := List.perm_append_comm (l₁ := [a, b]) (l₂ := [c, d])
  exact this.append_right H
theorem tab_upd {T : Tb} {A C : List FE} {e : FE} {F' : FR} {ps : List Prt} {L M : List HProp} (h : TabR T (A ++ e :: C) L) (hF : F'.Ok) (hid : F'.id = e.F.id) (hr : (⟨F', e.b, ps⟩ : FE).Rep M) (hs : ∀ A ∈ L, A ∈ M) : TabR (T.upd F') (A ++ ⟨F', e.b, ps⟩ :: C) M := by
  obtain ⟨fl, fs⟩ := T
  have hfs : fs = A.map FE.F ++ e.F :: C.map FE.F := by rw [← List.map_cons, ← List.map_append]; exact h.fs
  subst hfs
  have hn := h.ok.nd
  simp only [List.map_append, List.map_cons] at hn
  rw [List.nodup_append, List.nodup_cons] at hn
  have hu := upd_at (A := A.map FE.F) (C := C.map FE.F) (F := e.F) (F' := F') (fl := fl) hid (fun x hx he => hn.2.2 _ (List.mem_map_of_mem hx) _ (.head _) he) (fun x hx he => hn.2.1.1 (by rw [← he]; exact List.mem_map_of_mem hx))
  rw [hu]
  refine ⟨by simp, ok_at h.ok hid hF, fun x hx => ?_⟩
  rcases List.mem_append.1 hx with hx | hx
  · exact (h.rep x (by simp [hx])).mono hs
  · rcases List.mem_cons.1 hx with rfl | hx
    · exact hr
    · exact (h.rep x (by simp [hx])).mono hs
structure JG where
  T : Tb
  y : Nat
  A : List FE
  e : FE
  C : List FE
  L : List HProp
structure JG.Ok (j : JG) (T : Tb) (p : Prt) : Prop where
  r : TabR j.T (j.A ++ j.e :: j.C) j.L
  id : j.e.F.id = p.id
  c : (j.e.F.cnt : Int) = p.ct
  g : j.e.F.got[p.ix.toNat]! = none
  put : T.put p = j.T.fin (j.e.F.put p.ix.toNat p.d)
theorem tput_t (E : Env) (b : Nat) (T : Tb) (p : Prt) (hd : p.At E) : Does Try.prog 12 #[.pointer (some ⟨b, 0, none⟩), .agg p.enc.toArray] E ([tabP b T]) fun r H' => ∃ v, r = .tuple #[v, .bool (T.put p).1.is, .int .i64 (T.put p).1.e] ∧ H' = [osl 5 1 v (T.put p).1.out.length (u8s (T.put p).1.out), tabP b (T.put p).2] := by
  by_cases hok : p.Ok
  · have hnok : ¬ ¬ p.Ok := fun h => h hok
    refine Does.go _ _ Try.func12 rfl Try.ntmps12 rfl rfl ?_
    skip
    refine Body.seq ?_
    refine Body.region ?_
    refine Ops.s (Stp.box (lk rfl) rfl (fun b3 => ?_)) rfl
    refine Ops.u (Dtu.asg (lk rfl)) rfl ?_
    refine Ops.u (Dtu.asg (lk rfl)) rfl ?_
    refine Ops.u (Dtu.asg (lk rfl)) rfl ?_
    refine Ops.nil ?_
    refine Then.next ?_
    refine Body.seq ?_
    refine Body.block ?_
    refine Body.seq ?_
    refine Body.region ?_
    refine Ops.u (Dtu.mv (lk rfl)) rfl ?_
    refine Ops.s (Stp.call rfl Try.call39 (lks rfl) (fun E' le hat => made_r E' _ _ (by first | exact At.mono (by assumption) le | exact hat _ (.head _) | exact hat _ (.tail _ (.head _)) | exact hat _ (.tail _ (.tail _ (.head _))) | exact hat _ (.tail _ (.tail _ (.tail _ (.head _)))) | exact hat _ (.tail _ (.tail _ (.tail _ (.tail _ (.head _))))) | exact hat _ (.tail _ (.tail _ (.tail _ (.tail _ (.tail _ (.head _)))))) | exact hat _ (.tail _ (.tail _ (.tail _ (.tail _ (.tail _ (.tail _ (.head _))))))) | exact hat _ (.tail _ (.tail _ (.tail _ (.tail _ (.tail _ (.tail _ (.tail _ (.head _)))))))) | exact hat _ (.tail _ (.tail _ (.tail _ (.tail _ (.tail _ (.tail _ (.tail _ (.tail _ (.head _))))))))) | exact hat _ (.tail _ (.tail _ (.tail _ (.tail _ (.tail _ (.tail _ (.tail _ (.tail _ (.tail _ (.head _)))))))))))) ?_) rfl
    rintro _ _ ⟨rfl, rfl⟩
    refine Ops.u (Dtu.not (lk rfl)) rfl ?_
    refine Ops.u (Dtu.asg (lk rfl)) rfl ?_
    refine Ops.nil ?_
    refine Then.next ?_
    refine Body.condF (lk rfl) ?_
    refine Body.seq ?_
    refine Body.region ?_
    refine Ops.d (Det.lda Try.isAgg35 Try.sizeOf35 (lk rfl) (Rds.ow (m := 4) 0 rfl rfl) rfl) rfl ?_
    refine Ops.s (Stp.call rfl Try.call40 (lks rfl) (fun E' le hat => right_ok E' p (hd.mono le)) ?_) rfl
    rintro _ _ ⟨rfl, rfl⟩
    refine Ops.u (Dtu.notP (lk rfl)) rfl ?_
    refine Ops.u (Dtu.asg (lk rfl)) rfl ?_
    refine Ops.nil ?_
    refine Then.next ?_
    refine Body.condP (lk rfl) (fun hy => absurd hy (by first | omega | assumption | decide)) (fun _ => ?_)
    refine Body.tabI 1 rfl rfl fun y es L hR => ?_
    by_cases hfl : p.id < T.floor
    · have hput : T.put p = (⟨[], false, 23⟩, T) := by rw [Tb.put, if_pos hok, if_pos hfl]
      rw [hput]
      refine Body.seq ?_
      refine Body.draw mixed ?_
      refine AB.u 0 rfl (by decide +kernel) (Dtu.fld fa35_0 (lk rfl)) rfl ?_
      refine AB.d 1 rfl (by decide +kernel) rfl (Det.ld Try.isAgg22 (lk rfl) (Rd.ow 4 rfl rfl)) rfl ?_
      refine AB.u 2 rfl (by decide +kernel) (Dtu.mv (lk rfl)) rfl ?_
      refine AB.u 3 rfl (by decide +kernel) (Dtu.nilck (lk rfl)) rfl ?_
      refine AB.u 4 rfl (by decide +kernel) (Dtu.fld fa52_0 (lk rfl)) rfl ?_
      refine AB.d 5 rfl (by decide +kernel) rfl (Det.ld Try.isAgg22 (lk rfl) (Rd.ow 0 rfl rfl)) rfl ?_
      refine AB.u 6 rfl (by decide +kernel) (Dtu.lss (lk rfl) (lk rfl)) rfl ?_
      refine AB.u 7 rfl (by decide +kernel) (Dtu.asg (lk rfl)) rfl ?_
      refine AB.done (by decide +kernel) ?_
      refine Then.next ?_
      refine Body.condP (lk rfl) (fun _ => ?_) (fun hn => absurd (by first | omega | assumption | decide) hn)
      refine Body.seq ?_
      refine Body.region ?_
      refine Ops.u (Dtu.asg (lk rfl)) rfl ?_
      refine Ops.u (Dtu.asg (lk rfl)) rfl ?_
      refine Ops.u (Dtu.asg (lk rfl)) rfl ?_
      refine Ops.nil ?_
      refine Then.next ?_
      refine Body.ret ?_
      refine Blk.ret ?_
      refine Then.ret ?_
      (exact ⟨.inr rfl, _, fun w s => osl_nil (t := 5) (sz := 1) (a := none) (tabP_in (y := y) hR (pk [0, 0, 0, 0] rfl w s)), _, rfl, rfl⟩)
    · have hps := hok.x0
      have hps1 := hok.x1
      have hcs0 := hok.c0
      have hcs1 := hok.c1
      refine Body.seq ?_
      refine Body.draw mixed ?_
      refine AB.u 0 rfl (by decide +kernel) (Dtu.fld fa35_0 (lk rfl)) rfl ?_
      refine AB.d 1 rfl (by decide +kernel) rfl (Det.ld Try.isAgg22 (lk rfl) (Rd.ow 4 rfl rfl)) rfl ?_
      refine AB.u 2 rfl (by decide +kernel) (Dtu.mv (lk rfl)) rfl ?_
      refine AB.u 3 rfl (by decide +kernel) (Dtu.nilck (lk rfl)) rfl ?_
      refine AB.u 4 rfl (by decide +kernel) (Dtu.fld fa52_0 (lk rfl)) rfl ?_
      refine AB.d 5 rfl (by decide +kernel) rfl (Det.ld Try.isAgg22 (lk rfl) (Rd.ow 0 rfl rfl)) rfl ?_
      refine AB.u 6 rfl (by decide +kernel) (Dtu.lss (lk rfl) (lk rfl)) rfl ?_
      refine AB.u 7 rfl (by decide +kernel) (Dtu.asg (lk rfl)) rfl ?_
      refine AB.done (by decide +kernel) ?_
      refine Then.next ?_
      refine Body.condP (lk rfl) (fun hy => absurd hy (by first | omega | assumption | decide)) (fun _ => ?_)
      refine Body.skip ?_
      refine Blk.norm ?_
      refine Then.next ?_
      refine Body.seq ?_
      refine Body.draw mixed ?_
      refine AB.u 0 rfl (by decide +kernel) (Dtu.mv (lk rfl)) rfl ?_
      refine AB.u 1 rfl (by decide +kernel) (Dtu.nilck (lk rfl)) rfl ?_
      refine AB.u 2 rfl (by decide +kernel) (Dtu.fld fa52_1 (lk rfl)) rfl ?_
      refine AB.d 3 rfl (by decide +kernel) rfl (Det.ld Try.isAgg50 (lk rfl) (Rd.ow 0 rfl rfl)) rfl ?_
      refine AB.u 4 rfl (by decide +kernel) (Dtu.fld fa35_0 (lk rfl)) rfl ?_
      refine AB.d 5 rfl (by decide +kernel) rfl (Det.ld Try.isAgg22 (lk rfl) (Rd.ow 4 rfl rfl)) rfl ?_
      refine AB.d 6 rfl (by decide +kernel) rfl (Det.lookD Try.underlying50 Try.underlying22 (Mp.ow 1 rfl) (lk rfl) (lk rfl) zv86) rfl ?_
      refine AB.u 7 rfl (by decide +kernel) (Dtu.asg (lk rfl)) rfl ?_
      refine AB.done (by decide +kernel) ?_
      refine Then.next ?_
      refine Body.seqL (γ := JG) [0, 1, 3, 4, 5, 6] rfl (fun j => [(7, j.e.ptr)]) (fun j => [(0, own b [.int .u64 (j.T.floor : Nat), .map (some j.y)] 52), (1, omp .u64 j.y (fml (j.A ++ j.e :: j.C))), (2, many ((j.A ++ j.e :: j.C).map FE.own)), (3, many j.L)]) (fun _ => rfl) (fun _ _ => rfl) (fun j => j.Ok T p) ?_ ?_
      · rcases find_cases hR p.id with ⟨hf1, hf2⟩ | ⟨A, e, C, he, hid, hf, hA, hC⟩
        · have hpv : (mget (fml es) (p.id : Int)).getD (.pointer none) = .pointer none := by rw [mget_fml_none hf2]; rfl
          have hfn : ∀ F ∈ T.fs, F.id ≠ p.id := fun F hF => by
            rw [hR.fs] at hF
            obtain ⟨e, he, rfl⟩ := List.mem_map.1 hF
            exact hf2 e he
          rw [hpv]
          refine Body.block ?_
          refine Body.seq ?_
          refine Body.region ?_
          refine Ops.u (Dtu.mv (lk rfl)) rfl ?_
          refine Ops.u (Dtu.eqNil Try.underlying86 (lk rfl) (lk rfl)) rfl ?_
          refine Ops.u (Dtu.asg (lk rfl)) rfl ?_
          refine Ops.nil ?_
          refine Then.next ?_
          refine Body.condT (lk rfl) ?_
          refine Body.seq ?_
          refine Body.conseq (H' := [tabP b T, own b3 p.enc 35]) (fun w s => tabP_in (y := y) hR (pk [0, 0, 0, 0, 0] rfl w s)) ?_
          by_cases hfull : T.full p.id = true
          · have hput : T.put p = (⟨[], false, 5⟩, T) := by rw [Tb.put, if_pos hok, if_neg hfl, hf1]; dsimp only; rw [if_pos hfull]
            rw [hput]
            have hr0 : (if T.full p.id = true then (5 : Int) else 0) = 5 := if_pos hfull
            have hr1 : (if T.full p.id = true then T else T.room) = T := if_pos hfull
            refine Body.seq ?_
            refine Body.region ?_
            refine Ops.u (Dtu.mv (lk rfl)) rfl ?_
            refine Ops.u (Dtu.fld fa35_0 (lk rfl)) rfl ?_
            refine Ops.d (Det.ld Try.isAgg22 (lk rfl) (Rd.ow 1 rfl rfl)) rfl ?_
            refine Ops.s (Stp.callOwn [0] rfl rfl Try.call41 (lks rfl) (fun E' le hat => room_t E' b p.id T hR.ok) ?_) rfl
            rintro _ _ ⟨rfl, rfl⟩
            refine Ops.u (Dtu.asg (lk rfl)) rfl ?_
            refine Ops.nil ?_
            refine Then.next ?_
            rw [hr0, hr1]
            refine Body.seq ?_
            refine Body.region ?_
            refine Ops.u (Dtu.mv (lk rfl)) rfl ?_
            refine Ops.u (Dtu.neq (lk rfl) (lk rfl)) rfl ?_
            refine Ops.nil ?_
            refine Then.next ?_
            refine Body.condP (lk rfl) (fun _ => ?_) (fun hn => absurd (by first | omega | assumption | decide) hn)
            refine Body.seq ?_
            refine Body.region ?_
            refine Ops.u (Dtu.mv (lk rfl)) rfl ?_
            refine Ops.u (Dtu.asg (lk rfl)) rfl ?_
            refine Ops.u (Dtu.asg (lk rfl)) rfl ?_
            refine Ops.u (Dtu.asg (lk rfl)) rfl ?_
            refine Ops.nil ?_
            refine Then.next ?_
            refine Body.ret ?_
            refine Then.ret ?_
            refine Blk.ret ?_
            refine Joint.ret ?_
            (exact ⟨.inr rfl, _, fun w s => osl_nil (t := 5) (sz := 1) (a := none) (pk [0] rfl w s), _, rfl, rfl⟩)
          · have hput : T.put p = (T.room.add (FR.new p.id p.ct.toNat)).fin ((FR.new p.id p.ct.toNat).put p.ix.toNat p.d) := by rw [Tb.put, if_pos hok, if_neg hfl, hf1]; dsimp only; rw [if_neg hfull]
            have hr0 : (if T.full p.id = true then (5 : Int) else 0) = 0 := if_neg hfull
            have hr1 : (if T.full p.id = true then T else T.room) = T.room := if_neg hfull
            refine Body.seq ?_
            refine Body.region ?_
            refine Ops.u (Dtu.mv (lk rfl)) rfl ?_
            refine Ops.u (Dtu.fld fa35_0 (lk rfl)) rfl ?_
            refine Ops.d (Det.ld Try.isAgg22 (lk rfl) (Rd.ow 1 rfl rfl)) rfl ?_
            refine Ops.s (Stp.callOwn [0] rfl rfl Try.call41 (lks rfl) (fun E' le hat => room_t E' b p.id T hR.ok) ?_) rfl
            rintro _ _ ⟨rfl, rfl⟩
            refine Ops.u (Dtu.asg (lk rfl)) rfl ?_
            refine Ops.nil ?_
            refine Then.next ?_
            rw [hr0, hr1]
            refine Body.seq ?_
            refine Body.region ?_
            refine Ops.u (Dtu.mv (lk rfl)) rfl ?_
            refine Ops.u (Dtu.neq (lk rfl) (lk rfl)) rfl ?_
            refine Ops.nil ?_
            refine Then.next ?_
            refine Body.condP (lk rfl) (fun hy => absurd hy (by first | omega | assumption | decide)) (fun _ => ?_)
            refine Body.skip ?_
            refine Then.next ?_
            refine Body.tabI 0 rfl rfl fun y2 es2 L2 hR2 => ?_
            have hn2 : ∀ x ∈ es2, x.id ≠ p.id := fun x hx => hfn x.F (T.room_le _ (by rw [hR2.fs]; exact List.mem_map_of_mem hx))
            refine Body.seq ?_
            refine Body.region ?_
            refine Ops.u (Dtu.fld fa35_2 (lk rfl)) rfl ?_
            refine Ops.d (Det.ld Try.isAgg3 (lk rfl) (Rd.ow 4 rfl rfl)) rfl ?_
            refine Ops.u (Dtu.fld fa35_2 (lk rfl)) rfl ?_
            refine Ops.d (Det.ld Try.isAgg3 (lk rfl) (Rd.ow 4 rfl rfl)) rfl ?_
            refine Ops.u (Dtu.build ty89 pl89 (lkp rfl) rfl rfl) rfl ?_
            refine Ops.s (Stp.box (lk rfl) rfl (fun b50 => ?_)) rfl
            refine Ops.u (Dtu.asg (lk rfl)) rfl ?_
            refine Ops.nil ?_
            refine Then.next ?_
            refine Body.draw mixed ?_
            refine AB.u 0 rfl (by decide +kernel) (Dtu.mv (lk rfl)) rfl ?_
            refine AB.u 1 rfl (by decide +kernel) (Dtu.nilck (lk rfl)) rfl ?_
            refine AB.u 2 rfl (by decide +kernel) (Dtu.fld fa52_1 (lk rfl)) rfl ?_
            refine AB.d 3 rfl (by decide +kernel) rfl (Det.ld Try.isAgg50 (lk rfl) (Rd.ow 1 rfl rfl)) rfl ?_
            refine AB.u 4 rfl (by decide +kernel) (Dtu.fld fa35_0 (lk rfl)) rfl ?_
            refine AB.d 5 rfl (by decide +kernel) rfl (Det.ld Try.isAgg22 (lk rfl) (Rd.ow 5 rfl rfl)) rfl ?_
            refine AB.u 6 rfl (by decide +kernel) (Dtu.mv (lk rfl)) rfl ?_
            refine AB.e 7 rfl (by decide +kernel) (by decide +kernel) (Stp.mput 2 Try.underlying50 Try.underlying22 rfl (lk rfl) (lk rfl) (lk rfl) rfl ?_)
            refine AB.done (by decide +kernel) ?_
            refine Blk.norm ?_
            have hadd := Tb.add_ok (Tb.room_ok hR.ok) (Tb.room_len hR.ok) (FR.new_ok hok) (show T.room.floor ≤ p.id from Tb.room_floor hR.ok (by omega) (by simpa using hfull) hfn) (fun F hF => hfn F (T.room_le F hF))
            have hgn : (FR.new p.id p.ct.toNat).got[p.ix.toNat]! = none := by
              show (List.replicate 64 (none : Option (List Int)))[p.ix.toNat]! = none
              rw [getElem!_pos _ _ (by rw [List.length_replicate]; omega), List.getElem_replicate]
            obtain ⟨c, hc⟩ : ∃ c : Nat, p.ct = (c : Nat) := ⟨p.ct.toNat, by omega⟩
            have hcn : p.ct.toNat = c := by omega
            rw [hcn] at hadd hgn hput
            have hjr : TabR (T.room.add (FR.new p.id c)) (es2 ++ [⟨FR.new p.id c, b50, List.replicate 64 prt0⟩]) L2 := ⟨by simp only [Tb.add, hR2.fs, List.map_append, List.map_cons, List.map_nil], hadd, fun e he => by
              rcases List.mem_append.1 he with he | he
              · exact hR2.rep e he
              · rw [List.mem_singleton.1 he]
                refine ⟨by simp, fun i d h => ?_⟩
                have h : (List.replicate 64 (none : Option (List Int)))[i]? = some (some d) := h
                rw [List.getElem?_replicate] at h
                split at h <;> simp at h⟩
            have hmp := mput_fml_new (es := es2) (e := ⟨FR.new p.id c, b50, List.replicate 64 prt0⟩) hn2
            refine Joint.goLW ⟨T.room.add (FR.new p.id c), y2, es2, ⟨FR.new p.id c, b50, List.replicate 64 prt0⟩, [], L2⟩ rfl ⟨rfl, trivial⟩ (fun w s => ?_) ⟨hjr, rfl, by rw [hc]; rfl, hgn, hput⟩
            rw [hc] at s
            have s1 : St E [FE.own ⟨FR.new p.id c, b50, List.replicate 64 prt0⟩, many (es2.map FE.own), own b [.int .u64 (T.room.floor : Nat), .map (some y2)] 52, omp .u64 y2 (mput (fml es2) (FE.id ⟨FR.new p.id c, b50, List.replicate 64 prt0⟩ : Nat) (FE.ptr ⟨FR.new p.id c, b50, List.replicate 64 prt0⟩)), many L2, own b3 p.enc 35] w := pk [0, 2, 0, 0, 0, 0] rfl w s
            rw [hmp] at s1
            have s2 := many_snoc s1
            rw [own_snoc] at s2
            exact pk [1, 1, 0, 0, 0] rfl w s2
        · have hpv : (mget (fml es) (p.id : Int)).getD (.pointer none) = e.ptr := by rw [he, ← hid, mget_fml_some (fun x hx => by rw [hid]; exact hA x hx)]; rfl
          rw [hpv]
          refine Body.conseq (H' := [own e.b (cellsO e.F.cnt (e.F.got.map Option.isSome) e.ps (e.F.left : Nat)) 89, many ((A ++ C).map FE.own), own b [.int .u64 (T.floor : Nat), .map (some y)] 52, omp .u64 y (fml es), many L, own b3 p.enc 35]) (fun w s => ?_) ?_
          · have s1 := pk [2, 0, 0, 0, 0] rfl w s
            rw [he] at s1
            exact he ▸ fe_take s1
          have hFok := hR.ok.ok e.F (by rw [hR.fs, he]; simp)
          have hgl : (e.F.got.map Option.isSome).length = 64 := by simp [hFok.len]
          have hpl := (hR.rep e (by rw [he]; simp)).len
          have hx64 : p.ix.toNat < 64 := by omega
          have hk0 := cO_cnt (cnt := e.F.cnt) (came := e.F.got.map Option.isSome) (ps := e.ps) (left := (e.F.left : Nat))
          have hk1 := cO_came (cnt := e.F.cnt) (came := e.F.got.map Option.isSome) (ps := e.ps) (left := (e.F.left : Nat)) hgl hx64
          have hcm : (e.F.got.map Option.isSome)[p.ix.toNat]! = (e.F.got[p.ix.toNat]!).isSome := by
            have hFl := hFok.len
            rw [getElem!_pos _ _ (by omega), getElem!_pos e.F.got _ (by omega), List.getElem_map]
          rw [hcm] at hk1
          have hput : T.put p = if (e.F.cnt : Int) ≠ p.ct then (⟨[], false, 1⟩, T) else if (e.F.got[p.ix.toNat]!).isSome then (⟨[], false, 7⟩, T) else T.fin (e.F.put p.ix.toNat p.d) := by rw [Tb.put, if_pos hok, if_neg hfl, hf]
          have hback : ∀ w H, St E (own e.b (cellsO e.F.cnt (e.F.got.map Option.isSome) e.ps (e.F.left : Nat)) 89 :: many ((A ++ C).map FE.own) :: H) w → St E (many (es.map FE.own) :: H) w := fun w H s => by rw [he]; exact fe_put s
          by_cases hcc : (e.F.cnt : Int) ≠ p.ct
          · have hput : T.put p = (⟨[], false, 1⟩, T) := by rw [hput, if_pos hcc]
            rw [hput]
            refine Body.block ?_
            refine Body.seq ?_
            refine Body.region ?_
            refine Ops.u (Dtu.mv (lk rfl)) rfl ?_
            refine Ops.u (Dtu.eqNil Try.underlying86 (lk rfl) (lk rfl)) rfl ?_
            refine Ops.u (Dtu.asg (lk rfl)) rfl ?_
            refine Ops.nil ?_
            refine Then.next ?_
            refine Body.condF (lk rfl) ?_
            refine Body.seq ?_
            refine Body.draw mixed ?_
            refine AB.u 0 rfl (by decide +kernel) (Dtu.mv (lk rfl)) rfl ?_
            refine AB.u 1 rfl (by decide +kernel) (Dtu.nilck (lk rfl)) rfl ?_
            refine AB.u 2 rfl (by decide +kernel) (Dtu.fld fa89_0 (lk rfl)) rfl ?_
            refine AB.d 3 rfl (by decide +kernel) rfl (Det.ld Try.isAgg3 (lk rfl) (Rd.ow 0 rfl (cellEq hk0 (by omega)))) rfl ?_
            refine AB.u 4 rfl (by decide +kernel) (Dtu.fld fa35_2 (lk rfl)) rfl ?_
            refine AB.d 5 rfl (by decide +kernel) rfl (Det.ld Try.isAgg3 (lk rfl) (Rd.ow 5 rfl rfl)) rfl ?_
            refine AB.u 6 rfl (by decide +kernel) (Dtu.neq (lk rfl) (lk rfl)) rfl ?_
            refine AB.u 7 rfl (by decide +kernel) (Dtu.asg (lk rfl)) rfl ?_
            refine AB.done (by decide +kernel) ?_
            refine Then.next ?_
            refine Body.condP (lk rfl) (fun _ => ?_) (fun hn => absurd (by first | omega | assumption | decide) hn)
            refine Body.seq ?_
            refine Body.region ?_
            refine Ops.u (Dtu.asg (lk rfl)) rfl ?_
            refine Ops.u (Dtu.asg (lk rfl)) rfl ?_
            refine Ops.u (Dtu.asg (lk rfl)) rfl ?_
            refine Ops.nil ?_
            refine Then.next ?_
            refine Body.ret ?_
            refine Blk.ret ?_
            refine Joint.ret ?_
            (exact ⟨.inr rfl, _, fun w s => osl_nil (t := 5) (sz := 1) (a := none) (tabP_in (y := y) hR (pk [1, 1, 0, 0] rfl w (hback w _ s))), _, rfl, rfl⟩)
          · by_cases hcs : (e.F.got[p.ix.toNat]!).isSome = true
            · have hput : T.put p = (⟨[], false, 7⟩, T) := by rw [hput, if_neg hcc, if_pos hcs]
              rw [hput]
              refine Body.block ?_
              refine Body.seq ?_
              refine Body.region ?_
              refine Ops.u (Dtu.mv (lk rfl)) rfl ?_
              refine Ops.u (Dtu.eqNil Try.underlying86 (lk rfl) (lk rfl)) rfl ?_
              refine Ops.u (Dtu.asg (lk rfl)) rfl ?_
              refine Ops.nil ?_
              refine Then.next ?_
              refine Body.condF (lk rfl) ?_
              refine Body.seq ?_
              refine Body.draw mixed ?_
              refine AB.u 0 rfl (by decide +kernel) (Dtu.mv (lk rfl)) rfl ?_
              refine AB.u 1 rfl (by decide +kernel) (Dtu.nilck (lk rfl)) rfl ?_
              refine AB.u 2 rfl (by decide +kernel) (Dtu.fld fa89_0 (lk rfl)) rfl ?_
              refine AB.d 3 rfl (by decide +kernel) rfl (Det.ld Try.isAgg3 (lk rfl) (Rd.ow 0 rfl (cellEq hk0 (by omega)))) rfl ?_
              refine AB.u 4 rfl (by decide +kernel) (Dtu.fld fa35_2 (lk rfl)) rfl ?_
              refine AB.d 5 rfl (by decide +kernel) rfl (Det.ld Try.isAgg3 (lk rfl) (Rd.ow 5 rfl rfl)) rfl ?_
              refine AB.u 6 rfl (by decide +kernel) (Dtu.neq (lk rfl) (lk rfl)) rfl ?_
              refine AB.u 7 rfl (by decide +kernel) (Dtu.asg (lk rfl)) rfl ?_
              refine AB.done (by decide +kernel) ?_
              refine Then.next ?_
              refine Body.condP (lk rfl) (fun hy => absurd hy (by first | omega | assumption | decide)) (fun _ => ?_)
              refine Body.seq ?_
              refine Body.draw mixed ?_
              refine AB.u 0 rfl (by decide +kernel) (Dtu.mv (lk rfl)) rfl ?_
              refine AB.u 1 rfl (by decide +kernel) (Dtu.fld fa35_1 (lk rfl)) rfl ?_
              refine AB.d 2 rfl (by decide +kernel) rfl (Det.ld Try.isAgg3 (lk rfl) (Rd.ow 5 rfl rfl)) rfl ?_
              refine AB.u 3 rfl (by decide +kernel) (Dtu.nilck (lk rfl)) rfl ?_
              refine AB.u 4 rfl (by decide +kernel) (Dtu.fld fa89_1 (lk rfl)) rfl ?_
              refine AB.u 5 rfl (by decide +kernel) (Dtu.ixa (i := (p.ix.toNat)) Try.underlying31 Try.sizeOf4 (lk rfl) (lk rfl) (by omega) (by omega)) rfl ?_
              refine AB.d 6 rfl (by decide +kernel) rfl (Det.ld Try.isAgg4 (lk rfl) (Rd.ow 0 rfl (cellEq hk1 (by omega)))) rfl ?_
              refine AB.u 7 rfl (by decide +kernel) (Dtu.asg (lk rfl)) rfl ?_
              refine AB.done (by decide +kernel) ?_
              refine Then.next ?_
              refine Body.cond (lk rfl) (fun _ => ?_) (fun hn => absurd hn (by first | (rw [hcs]; decide) | simp [hcs]))
              refine Body.seq ?_
              refine Body.region ?_
              refine Ops.u (Dtu.asg (lk rfl)) rfl ?_
              refine Ops.u (Dtu.asg (lk rfl)) rfl ?_
              refine Ops.u (Dtu.asg (lk rfl)) rfl ?_
              refine Ops.nil ?_
              refine Then.next ?_
              refine Body.ret ?_
              refine Blk.ret ?_
              refine Joint.ret ?_
              (exact ⟨.inr rfl, _, fun w s => osl_nil (t := 5) (sz := 1) (a := none) (tabP_in (y := y) hR (pk [1, 1, 0, 0] rfl w (hback w _ s))), _, rfl, rfl⟩)
            · have hput : T.put p = T.fin (e.F.put p.ix.toNat p.d) := by rw [hput, if_neg hcc, if_neg hcs]
              have hnone : e.F.got[p.ix.toNat]! = none := by simpa using hcs
              have hcs : (e.F.got[p.ix.toNat]!).isSome = false := by simpa using hcs
              refine Body.block ?_
              refine Body.seq ?_
              refine Body.region ?_
              refine Ops.u (Dtu.mv (lk rfl)) rfl ?_
              refine Ops.u (Dtu.eqNil Try.underlying86 (lk rfl) (lk rfl)) rfl ?_
              refine Ops.u (Dtu.asg (lk rfl)) rfl ?_
              refine Ops.nil ?_
              refine Then.next ?_
              refine Body.condF (lk rfl) ?_
              refine Body.seq ?_
              refine Body.draw mixed ?_
              refine AB.u 0 rfl (by decide +kernel) (Dtu.mv (lk rfl)) rfl ?_
              refine AB.u 1 rfl (by decide +kernel) (Dtu.nilck (lk rfl)) rfl ?_
              refine AB.u 2 rfl (by decide +kernel) (Dtu.fld fa89_0 (lk rfl)) rfl ?_
              refine AB.d 3 rfl (by decide +kernel) rfl (Det.ld Try.isAgg3 (lk rfl) (Rd.ow 0 rfl (cellEq hk0 (by omega)))) rfl ?_
              refine AB.u 4 rfl (by decide +kernel) (Dtu.fld fa35_2 (lk rfl)) rfl ?_
              refine AB.d 5 rfl (by decide +kernel) rfl (Det.ld Try.isAgg3 (lk rfl) (Rd.ow 5 rfl rfl)) rfl ?_
              refine AB.u 6 rfl (by decide +kernel) (Dtu.neq (lk rfl) (lk rfl)) rfl ?_
              refine AB.u 7 rfl (by decide +kernel) (Dtu.asg (lk rfl)) rfl ?_
              refine AB.done (by decide +kernel) ?_
              refine Then.next ?_
              refine Body.condP (lk rfl) (fun hy => absurd hy (by first | omega | assumption | decide)) (fun _ => ?_)
              refine Body.seq ?_
              refine Body.draw mixed ?_
              refine AB.u 0 rfl (by decide +kernel) (Dtu.mv (lk rfl)) rfl ?_
              refine AB.u 1 rfl (by decide +kernel) (Dtu.fld fa35_1 (lk rfl)) rfl ?_
              refine AB.d 2 rfl (by decide +kernel) rfl (Det.ld Try.isAgg3 (lk rfl) (Rd.ow 5 rfl rfl)) rfl ?_
              refine AB.u 3 rfl (by decide +kernel) (Dtu.nilck (lk rfl)) rfl ?_
              refine AB.u 4 rfl (by decide +kernel) (Dtu.fld fa89_1 (lk rfl)) rfl ?_
              refine AB.u 5 rfl (by decide +kernel) (Dtu.ixa (i := (p.ix.toNat)) Try.underlying31 Try.sizeOf4 (lk rfl) (lk rfl) (by omega) (by omega)) rfl ?_
              refine AB.d 6 rfl (by decide +kernel) rfl (Det.ld Try.isAgg4 (lk rfl) (Rd.ow 0 rfl (cellEq hk1 (by omega)))) rfl ?_
              refine AB.u 7 rfl (by decide +kernel) (Dtu.asg (lk rfl)) rfl ?_
              refine AB.done (by decide +kernel) ?_
              refine Then.next ?_
              refine Body.cond (lk rfl) (fun hn => absurd hn (by first | (rw [hcs]; decide) | simp [hcs])) (fun _ => ?_)
              refine Body.skip ?_
              refine Blk.norm ?_
              (exact Joint.goLW ⟨T, y, A, e, C, L⟩ rfl ⟨rfl, trivial⟩ (fun w s => by subst he; exact pk [1, 1, 0, 0, 0] rfl w (hback w _ s)) ⟨he ▸ hR, hid, by dsimp only; omega, hnone, hput⟩)
      rintro ⟨T1, y1, A, e, C, L1⟩ u1 ⟨jr, jid, jc, jg, jput⟩
      dsimp only at jr jid jc jg jput ⊢
      have hFok := jr.ok.ok e.F (by rw [jr.fs]; simp)
      have hFl := hFok.len
      have hgl : (e.F.got.map Option.isSome).length = 64 := by simp [hFok.len]
      have hpl := (jr.rep e (by simp)).len
      have hx64 : p.ix.toNat < 64 := by omega
      have hxc : p.ix.toNat < e.F.cnt := by omega
      have hdl := hok.d0
      have hds : Sl E [] 1 p.s p.d.length (p.d.map (.int .u8)) := hd
      refine Body.pure hds.up.shape fun hsh => ?_
      obtain ⟨sa, sc, hs'⟩ := hsh
      have hone := Prt.one hs'
      refine Body.seq ?_
      refine Body.region ?_
      refine Ops.d (Det.lda Try.isAgg35 Try.sizeOf35 (lk rfl) (Rds.ow (m := 4) 4 rfl rfl) rfl) rfl ?_
      refine Ops.s (Stp.alloc ty35 (fun b9 => ?_)) rfl
      refine Ops.e (Stp.store 0 Try.sizeOf35 (lk rfl) (lk rfl) rfl rfl rfl rfl (by exact all_one (by assumption)) rfl rfl ?_)
      refine Ops.nil ?_
      refine Then.next ?_
      refine Body.seq ?_
      refine Body.region ?_
      refine Ops.u (Dtu.fld fa35_3 (lk rfl)) rfl ?_
      refine Ops.d (Det.ld Try.isAgg23 (lk rfl) (Rd.ow 5 rfl rfl)) rfl ?_
      refine Ops.s (Stp.call rfl Try.call38 (lks rfl) (fun E' le hat => cloneB_ok E' _ _ _ (Sl.mono hds le) (all_map (fun _ => rfl) _) (by omega)) ?_) rfl
      rintro _ _ ⟨rfl, ⟨ra77, rm77, rc77, rfl⟩⟩
      refine Ops.u (Dtu.fld fa35_3 (lk rfl)) rfl ?_
      refine Ops.e (Stp.store 1 Try.sizeOf23 (lk rfl) (lk rfl) rfl rfl rfl rfl rfl rfl rfl ?_)
      refine Ops.nil ?_
      refine Then.next ?_
      refine Body.conseq (H' := [own e.b (cellsO e.F.cnt (e.F.got.map Option.isSome) e.ps (e.F.left : Nat)) 89, many ((A ++ C).map FE.own), many (osl 5 1 (.slice ra77 rm77 rc77) p.d.length (p.d.map (.int .u8)) :: L1), own b [.int .u64 (T1.floor : Nat), .map (some y1)] 52, omp .u64 y1 (fml (A ++ e :: C)), own b9 [.int .u64 (p.id : Nat), .int .i64 p.ix, .int .i64 p.ct, .slice ra77 rm77 rc77] 35, own b3 p.enc 35]) (fun w s => ?_) ?_
      · have s1 := fe_take (pk [4, 0, 0, 0, 0, 0, 0] rfl w s)
        exact pk [1, 1, 0, 1, 1, 0, 0] rfl w (poolCons (pk [2, 5, 0, 0, 0, 0, 0, 0] rfl w s1))
      have hlp := FR.put_left (d := p.d) hFok hxc jg
      have hcm : (e.F.put p.ix.toNat p.d).got.map Option.isSome = (e.F.got.map Option.isSome).set p.ix.toNat true := by simp [FR.put, List.map_set]
      have hgl2 : ((e.F.got.map Option.isSome).set p.ix.toNat true).length = 64 := by rw [List.length_set]; exact hgl
      have hpl2 : (e.ps.set p.ix.toNat (⟨p.id, p.ix, p.ct, p.d, .slice ra77 rm77 rc77⟩ : Prt)).length = 64 := by rw [List.length_set]; exact hpl
      have hP1 := put_came (cnt := e.F.cnt) (ps := e.ps) (left := (e.F.left : Nat)) hgl hx64 true
      have hP2 := put_part (cnt := e.F.cnt) (left := (e.F.left : Nat)) hgl2 hpl hx64 (⟨p.id, p.ix, p.ct, p.d, .slice ra77 rm77 rc77⟩ : Prt)
      have hP3 := put_part (cnt := e.F.cnt) (left := (e.F.left : Nat)) hgl hpl hx64 (⟨p.id, p.ix, p.ct, p.d, .slice ra77 rm77 rc77⟩ : Prt)
      have hP4 := put_came (cnt := e.F.cnt) (ps := e.ps.set p.ix.toNat (⟨p.id, p.ix, p.ct, p.d, .slice ra77 rm77 rc77⟩ : Prt)) (left := (e.F.left : Nat)) hgl hx64 true
      have hP5 := put_left (cnt := e.F.cnt) (left := (e.F.left : Nat)) hgl2 hpl2 (((e.F.left : Nat) : Int) - 1)
      have hk1 := cO_left (cnt := e.F.cnt) (left := (e.F.left : Nat)) hgl2 hpl2
      have hk2 := cO_left (cnt := e.F.cnt) (left := ((e.F.left : Nat) : Int) - 1) hgl2 hpl2
      have hk3 := cO_cnt (cnt := e.F.cnt) (came := (e.F.got.map Option.isSome).set p.ix.toNat true) (ps := e.ps.set p.ix.toNat (⟨p.id, p.ix, p.ct, p.d, .slice ra77 rm77 rc77⟩ : Prt)) (left := ((e.F.left : Nat) : Int) - 1)
      have hcl : e.F.left ≤ 64 := by have := hFok.c1; simp only [FR.left]; omega
      have hF'ok := FR.put_ok hok hFok jc
      have hid2 : e.F.id = p.id := jid
      have hrep := rep_put (s := .slice ra77 rm77 rc77) ((jr.rep e (by simp)).mono (M := osl 5 1 (.slice ra77 rm77 rc77) p.d.length (u8s p.d) :: L1) fun A h => .tail _ h) hFl hx64 hps hid2.symm jc (.head _)
      have hup := tab_upd jr hF'ok rfl hrep fun A h => .tail _ h
      have hlf : ((e.F.left : Nat) : Int) - 1 = ((e.F.put p.ix.toNat p.d).left : Nat) := by omega
      have hclose : ∀ w H, St E (own e.b (cellsO e.F.cnt ((e.F.got.map Option.isSome).set p.ix.toNat true) (e.ps.set p.ix.toNat (⟨p.id, p.ix, p.ct, p.d, .slice ra77 rm77 rc77⟩ : Prt)) (((e.F.left : Nat) : Int) - 1)) 89 :: many ((A ++ C).map FE.own) :: many (osl 5 1 (.slice ra77 rm77 rc77) p.d.length (p.d.map (.int .u8)) :: L1) :: own b [.int .u64 (T1.floor : Nat), .map (some y1)] 52 :: omp .u64 y1 (fml (A ++ e :: C)) :: H) w → St E (tabP b (T1.upd (e.F.put p.ix.toNat p.d)) :: H) w := fun w H s => by
        rw [hlf, ← hcm] at s
        have s1 : St E (FE.own ⟨e.F.put p.ix.toNat p.d, e.b, e.ps.set p.ix.toNat (⟨p.id, p.ix, p.ct, p.d, .slice ra77 rm77 rc77⟩ : Prt)⟩ :: many ((A ++ C).map FE.own) :: many (osl 5 1 (.slice ra77 rm77 rc77) p.d.length (p.d.map (.int .u8)) :: L1) :: own b [.int .u64 (T1.floor : Nat), .map (some y1)] 52 :: omp .u64 y1 (fml (A ++ e :: C)) :: H) w := s
        have s2 := fe_put s1
        refine tabP_in (y := y1) hup ?_
        rw [fml_same (A := A) (C := C) (e := e) (e' := ⟨e.F.put p.ix.toNat p.d, e.b, e.ps.set p.ix.toNat (⟨p.id, p.ix, p.ct, p.d, .slice ra77 rm77 rc77⟩ : Prt)⟩) rfl rfl]
        exact s2.perm (perm4 _ _ _ _ _)
      by_cases hl0 : 0 < (e.F.put p.ix.toNat p.d).left
      · have hput : T.put p = (⟨[], false, 0⟩, T1.upd (e.F.put p.ix.toNat p.d)) := by rw [jput, Tb.fin, if_pos hl0]
        rw [hput]
        refine Body.seq ?_
        refine Body.drawE [5, 5] mixed rfl ?_
        rintro E20' le20 ⟨hA20_0, hA20_1, -⟩
        have hds_20 := Sl.mono hds le20
        refine AE.u 0 rfl (by decide +kernel) (Dtu.mv (lk rfl)) rfl ?_
        refine AE.u 1 rfl (by decide +kernel) (Dtu.fld fa35_1 (lk rfl)) rfl ?_
        refine AE.d 2 rfl (by decide +kernel) (Det.ld Try.isAgg3 (lk rfl) (Rd.env (own_at hA20_1 rfl))) rfl ?_
        refine AE.u 3 rfl (by decide +kernel) (Dtu.mv (lk rfl)) rfl ?_
        refine AE.u 4 rfl (by decide +kernel) (Dtu.fld fa35_1 (lk rfl)) rfl ?_
        refine AE.d 5 rfl (by decide +kernel) (Det.ld Try.isAgg3 (lk rfl) (Rd.env (own_at hA20_1 rfl))) rfl ?_
        refine AE.d 6 rfl (by decide +kernel) (Det.lda Try.isAgg35 Try.sizeOf35 (lk rfl) (Rds.at (m := 4) hA20_0 rfl) rfl) rfl ?_
        refine AE.u 7 rfl (by decide +kernel) (Dtu.nilck (lk rfl)) rfl ?_
        refine AE.u 8 rfl (by decide +kernel) (Dtu.fld fa89_1 (lk rfl)) rfl ?_
        refine AE.u 9 rfl (by decide +kernel) (Dtu.ixa (i := (p.ix.toNat)) Try.underlying31 Try.sizeOf4 (lk rfl) (lk rfl) (by omega) (by omega)) rfl ?_
        refine AE.u 11 rfl (by decide +kernel) (Dtu.nilck (lk rfl)) rfl ?_
        refine AE.u 12 rfl (by decide +kernel) (Dtu.fld fa89_2 (lk rfl)) rfl ?_
        refine AE.more [10] (by decide +kernel) rfl ⟨?_, trivial⟩
        refine AEI.e rfl (Stp.storeC 0 hP1 (by omega) Try.sizeOf4 (lk rfl) (lk rfl) rfl rfl rfl rfl rfl ?_)
        refine AE.u 13 rfl (by decide +kernel) (Dtu.ixa (i := (p.ix.toNat)) Try.underlying87 Try.sizeOf35 (lk rfl) (lk rfl) (by omega) (by omega)) rfl ?_
        refine AE.more [14] (by decide +kernel) rfl ⟨?_, trivial⟩
        refine AEI.e rfl (Stp.storeC 0 hP2 (by omega) Try.sizeOf35 (lk rfl) (lk rfl) rfl rfl rfl rfl rfl ?_)
        refine AE.done (by decide +kernel) ?_
        refine Then.next ?_
        refine Body.seq ?_
        refine Body.region ?_
        refine Ops.u (Dtu.mv (lk rfl)) rfl ?_
        refine Ops.u (Dtu.nilck (lk rfl)) rfl ?_
        refine Ops.u (Dtu.fld fa89_3 (lk rfl)) rfl ?_
        refine Ops.d (Det.ld Try.isAgg3 (lk rfl) (Rd.ow 0 rfl (cellEq hk1 (by omega)))) rfl ?_
        refine Ops.u (Dtu.sub (lk rfl) (lk rfl) (w64 (by omega) (by omega))) rfl ?_
        refine Ops.u (Dtu.nilck (lk rfl)) rfl ?_
        refine Ops.u (Dtu.fld fa89_3 (lk rfl)) rfl ?_
        refine Ops.e (Stp.storeC 0 hP5 (by omega) Try.sizeOf3 (lk rfl) (lk rfl) rfl rfl rfl rfl rfl ?_)
        refine Ops.nil ?_
        refine Then.next ?_
        refine Body.seq ?_
        refine Body.seq ?_
        refine Body.region ?_
        refine Ops.u (Dtu.mv (lk rfl)) rfl ?_
        refine Ops.u (Dtu.nilck (lk rfl)) rfl ?_
        refine Ops.u (Dtu.fld fa89_3 (lk rfl)) rfl ?_
        refine Ops.d (Det.ld Try.isAgg3 (lk rfl) (Rd.ow 0 rfl (cellEq hk2 (by omega)))) rfl ?_
        refine Ops.u (Dtu.gtr (lk rfl) (lk rfl)) rfl ?_
        refine Ops.nil ?_
        refine Then.next ?_
        refine Body.condP (lk rfl) (fun _ => ?_) (fun hn => absurd (by first | omega | assumption | decide) hn)
        refine Body.seq ?_
        refine Body.region ?_
        refine Ops.u (Dtu.asg (lk rfl)) rfl ?_
        refine Ops.u (Dtu.asg (lk rfl)) rfl ?_
        refine Ops.u (Dtu.asg (lk rfl)) rfl ?_
        refine Ops.nil ?_
        refine Then.next ?_
        refine Body.ret ?_
        refine Then.ret ?_
        (exact ⟨.inr rfl, _, fun w s => osl_nil (t := 5) (sz := 1) (a := none) (pk [0] rfl w (hclose w _ s)), _, rfl, rfl⟩)
      · have hput : T.put p = (⟨(e.F.put p.ix.toNat p.d).frame, true, 0⟩, (T1.upd (e.F.put p.ix.toNat p.d)).raise (p.id + 1)) := by rw [jput, Tb.fin, if_neg hl0]; exact hid2 ▸ rfl
        rw [hput]
        obtain ⟨hw1, hw2, hw3, hw4⟩ := whole_ok hF'ok hrep (by omega)
        have hcnt : (e.F.put p.ix.toNat p.d).cnt = e.F.cnt := rfl
        have hc0 := hFok.c0
        have hc1 := hFok.c1
        rw [hcnt] at hw1 hw2 hw3 hw4
        have hjl : 0 < ((e.ps.set p.ix.toNat (⟨p.id, p.ix, p.ct, p.d, .slice ra77 rm77 rc77⟩ : Prt)).take e.F.cnt).length := by omega
        have hsl : ∀ E', At (own e.b (cellsO e.F.cnt ((e.F.got.map Option.isSome).set p.ix.toNat true) (e.ps.set p.ix.toNat (⟨p.id, p.ix, p.ct, p.d, .slice ra77 rm77 rc77⟩ : Prt)) (((e.F.left : Nat) : Int) - 1)) 89) E' → Sl E' [] 4 (subSl (.slice (some ⟨e.b, 0 + 65, none⟩) 64 64) 4 0 e.F.cnt 64) ((e.ps.set p.ix.toNat (⟨p.id, p.ix, p.ct, p.d, .slice ra77 rm77 rc77⟩ : Prt)).take e.F.cnt).length (((e.ps.set p.ix.toNat (⟨p.id, p.ix, p.ct, p.d, .slice ra77 rm77 rc77⟩ : Prt)).take e.F.cnt).flatMap Prt.enc) := fun E' h => by
          rw [hw2]; exact cO_parts h hgl2 hpl2 (by omega) (by omega)
        refine Body.seq ?_
        refine Body.drawE [5, 5] mixed rfl ?_
        rintro E20' le20 ⟨hA20_0, hA20_1, -⟩
        have hds_20 := Sl.mono hds le20
        refine AE.u 0 rfl (by decide +kernel) (Dtu.mv (lk rfl)) rfl ?_
        refine AE.u 1 rfl (by decide +kernel) (Dtu.fld fa35_1 (lk rfl)) rfl ?_
        refine AE.d 2 rfl (by decide +kernel) (Det.ld Try.isAgg3 (lk rfl) (Rd.env (own_at hA20_1 rfl))) rfl ?_
        refine AE.u 3 rfl (by decide +kernel) (Dtu.mv (lk rfl)) rfl ?_
        refine AE.u 4 rfl (by decide +kernel) (Dtu.fld fa35_1 (lk rfl)) rfl ?_
        refine AE.d 5 rfl (by decide +kernel) (Det.ld Try.isAgg3 (lk rfl) (Rd.env (own_at hA20_1 rfl))) rfl ?_
        refine AE.d 6 rfl (by decide +kernel) (Det.lda Try.isAgg35 Try.sizeOf35 (lk rfl) (Rds.at (m := 4) hA20_0 rfl) rfl) rfl ?_
        refine AE.u 7 rfl (by decide +kernel) (Dtu.nilck (lk rfl)) rfl ?_
        refine AE.u 8 rfl (by decide +kernel) (Dtu.fld fa89_1 (lk rfl)) rfl ?_
        refine AE.u 9 rfl (by decide +kernel) (Dtu.ixa (i := (p.ix.toNat)) Try.underlying31 Try.sizeOf4 (lk rfl) (lk rfl) (by omega) (by omega)) rfl ?_
        refine AE.u 11 rfl (by decide +kernel) (Dtu.nilck (lk rfl)) rfl ?_
        refine AE.u 12 rfl (by decide +kernel) (Dtu.fld fa89_2 (lk rfl)) rfl ?_
        refine AE.more [10] (by decide +kernel) rfl ⟨?_, trivial⟩
        refine AEI.e rfl (Stp.storeC 0 hP1 (by omega) Try.sizeOf4 (lk rfl) (lk rfl) rfl rfl rfl rfl rfl ?_)
        refine AE.u 13 rfl (by decide +kernel) (Dtu.ixa (i := (p.ix.toNat)) Try.underlying87 Try.sizeOf35 (lk rfl) (lk rfl) (by omega) (by omega)) rfl ?_
        refine AE.more [14] (by decide +kernel) rfl ⟨?_, trivial⟩
        refine AEI.e rfl (Stp.storeC 0 hP2 (by omega) Try.sizeOf35 (lk rfl) (lk rfl) rfl rfl rfl rfl rfl ?_)
        refine AE.done (by decide +kernel) ?_
        refine Then.next ?_
        refine Body.seq ?_
        refine Body.region ?_
        refine Ops.u (Dtu.mv (lk rfl)) rfl ?_
        refine Ops.u (Dtu.nilck (lk rfl)) rfl ?_
        refine Ops.u (Dtu.fld fa89_3 (lk rfl)) rfl ?_
        refine Ops.d (Det.ld Try.isAgg3 (lk rfl) (Rd.ow 0 rfl (cellEq hk1 (by omega)))) rfl ?_
        refine Ops.u (Dtu.sub (lk rfl) (lk rfl) (w64 (by omega) (by omega))) rfl ?_
        refine Ops.u (Dtu.nilck (lk rfl)) rfl ?_
        refine Ops.u (Dtu.fld fa89_3 (lk rfl)) rfl ?_
        refine Ops.e (Stp.storeC 0 hP5 (by omega) Try.sizeOf3 (lk rfl) (lk rfl) rfl rfl rfl rfl rfl ?_)
        refine Ops.nil ?_
        refine Then.next ?_
        refine Body.seq ?_
        refine Body.seq ?_
        refine Body.region ?_
        refine Ops.u (Dtu.mv (lk rfl)) rfl ?_
        refine Ops.u (Dtu.nilck (lk rfl)) rfl ?_
        refine Ops.u (Dtu.fld fa89_3 (lk rfl)) rfl ?_
        refine Ops.d (Det.ld Try.isAgg3 (lk rfl) (Rd.ow 0 rfl (cellEq hk2 (by omega)))) rfl ?_
        refine Ops.u (Dtu.gtr (lk rfl) (lk rfl)) rfl ?_
        refine Ops.nil ?_
        refine Then.next ?_
        refine Body.condP (lk rfl) (fun hy => absurd hy (by first | omega | assumption | decide)) (fun _ => ?_)
        refine Body.skip ?_
        refine Then.next ?_
        refine Body.seq ?_
        refine Body.draw mixed ?_
        refine AB.u 0 rfl (by decide +kernel) (Dtu.mv (lk rfl)) rfl ?_
        refine AB.u 1 rfl (by decide +kernel) (Dtu.nilck (lk rfl)) rfl ?_
        refine AB.u 2 rfl (by decide +kernel) (Dtu.fld fa89_2 (lk rfl)) rfl ?_
        refine AB.u 3 rfl (by decide +kernel) (Dtu.mv (lk rfl)) rfl ?_
        refine AB.u 4 rfl (by decide +kernel) (Dtu.nilck (lk rfl)) rfl ?_
        refine AB.u 5 rfl (by decide +kernel) (Dtu.fld fa89_0 (lk rfl)) rfl ?_
        refine AB.d 6 rfl (by decide +kernel) rfl (Det.ld Try.isAgg3 (lk rfl) (Rd.ow 0 rfl (cellEq hk3 (by omega)))) rfl ?_
        refine AB.u 7 rfl (by decide +kernel) (Dtu.slcA 0 (e.F.cnt) Try.underlying87 Try.sizeOf35 (lk rfl) rfl ⟨_, lk rfl⟩ (by omega) (by omega)) rfl ?_
        refine AB.s 8 rfl (by decide +kernel) (by decide +kernel) (Stp.call rfl Try.call42 (lks rfl) (fun E' le hat => fjoin_ok E' _ _ (hsl E' (by first | exact At.mono (by assumption) le | exact hat _ (.head _) | exact hat _ (.tail _ (.head _)) | exact hat _ (.tail _ (.tail _ (.head _))) | exact hat _ (.tail _ (.tail _ (.tail _ (.head _)))) | exact hat _ (.tail _ (.tail _ (.tail _ (.tail _ (.head _))))) | exact hat _ (.tail _ (.tail _ (.tail _ (.tail _ (.tail _ (.head _)))))) | exact hat _ (.tail _ (.tail _ (.tail _ (.tail _ (.tail _ (.tail _ (.head _))))))) | exact hat _ (.tail _ (.tail _ (.tail _ (.tail _ (.tail _ (.tail _ (.tail _ (.head _)))))))) | exact hat _ (.tail _ (.tail _ (.tail _ (.tail _ (.tail _ (.tail _ (.tail _ (.tail _ (.head _))))))))) | exact hat _ (.tail _ (.tail _ (.tail _ (.tail _ (.tail _ (.tail _ (.tail _ (.tail _ (.tail _ (.head _)))))))))))) (fun q hq => poolSl (L := osl 5 1 (.slice ra77 rm77 rc77) p.d.length (p.d.map (.int .u8)) :: L1) (by first | exact At.mono (by assumption) le | exact hat _ (.head _) | exact hat _ (.tail _ (.head _)) | exact hat _ (.tail _ (.tail _ (.head _))) | exact hat _ (.tail _ (.tail _ (.tail _ (.head _)))) | exact hat _ (.tail _ (.tail _ (.tail _ (.tail _ (.head _))))) | exact hat _ (.tail _ (.tail _ (.tail _ (.tail _ (.tail _ (.head _)))))) | exact hat _ (.tail _ (.tail _ (.tail _ (.tail _ (.tail _ (.tail _ (.head _))))))) | exact hat _ (.tail _ (.tail _ (.tail _ (.tail _ (.tail _ (.tail _ (.tail _ (.head _)))))))) | exact hat _ (.tail _ (.tail _ (.tail _ (.tail _ (.tail _ (.tail _ (.tail _ (.tail _ (.head _))))))))) | exact hat _ (.tail _ (.tail _ (.tail _ (.tail _ (.tail _ (.tail _ (.tail _ (.tail _ (.tail _ (.head _))))))))))) (hw4 q hq)) hw1 hjl) ?_) rfl
        rintro _ _ ⟨v113, rfl, rfl⟩
        refine AB.u 9 rfl (by decide +kernel) (Dtu.mv (lk rfl)) rfl ?_
        refine AB.u 10 rfl (by decide +kernel) (Dtu.ext (lk rfl) rfl) rfl ?_
        refine AB.u 11 rfl (by decide +kernel) (Dtu.ext (lk rfl) rfl) rfl ?_
        refine AB.u 12 rfl (by decide +kernel) (Dtu.asg (lk rfl)) rfl ?_
        refine AB.u 13 rfl (by decide +kernel) (Dtu.asg (lk rfl)) rfl ?_
        refine AB.done (by decide +kernel) ?_
        refine Then.next ?_
        rw [hw3]
        refine Body.conseq (H' := [osl 5 1 v113 (e.F.put p.ix.toNat p.d).frame.length (u8s (e.F.put p.ix.toNat p.d).frame), tabP b (T1.upd (e.F.put p.ix.toNat p.d)), own b3 p.enc 35]) (fun w s => pk [1, 0, 0] rfl w (hclose w _ (pk [1, 1, 1, 1, 1, 0, 1] rfl w s))) ?_
        have hr1 : (T1.upd (e.F.put p.ix.toNat p.d)).floor ≤ p.id + 1 := by
          have := jr.ok.ge e.F (by rw [jr.fs]; simp)
          simp only [Tb.upd]; omega
        have hr2 : p.id + 1 ≤ 4611686018427387904 := by have := hok.i1; omega
        refine Body.seq ?_
        refine Body.region ?_
        refine Ops.u (Dtu.mv (lk rfl)) rfl ?_
        refine Ops.u (Dtu.fld fa35_0 (lk rfl)) rfl ?_
        refine Ops.d (Det.ld Try.isAgg22 (lk rfl) (Rd.ow 2 rfl rfl)) rfl ?_
        refine Ops.u (Dtu.add (lk rfl) (lk rfl) (wu64 (by omega) (by omega))) rfl ?_
        refine Ops.s (Stp.callOwn [1] rfl rfl Try.call43 (lks rfl) (fun E' le hat => raise_t E' b (p.id + 1) (T1.upd (e.F.put p.ix.toNat p.d)) hr1 hr2) ?_) rfl
        rintro _ _ ⟨rfl, rfl⟩
        refine Ops.nil ?_
        refine Then.next ?_
        refine Body.seq ?_
        refine Body.region ?_
        refine Ops.u (Dtu.mv (lk rfl)) rfl ?_
        refine Ops.u (Dtu.mv (lk rfl)) rfl ?_
        refine Ops.u (Dtu.eql (lk rfl) (lk rfl)) rfl ?_
        refine Ops.u (Dtu.mv (lk rfl)) rfl ?_
        refine Ops.u (Dtu.asg (lk rfl)) rfl ?_
        refine Ops.u (Dtu.asg (lk rfl)) rfl ?_
        refine Ops.u (Dtu.asg (lk rfl)) rfl ?_
        refine Ops.nil ?_
        refine Then.next ?_
        refine Body.ret ?_
        exact ⟨.inr rfl, _, pk [1, 0] rfl, ⟨_, rfl, rfl⟩⟩
  · have hput : T.put p = (⟨[], false, 3⟩, T) := by rw [Tb.put, if_neg hok]
    have hnok : ¬ p.Ok := hok
    rw [hput]
    refine Does.go _ _ Try.func12 rfl Try.ntmps12 rfl rfl ?_
    skip
    refine Body.seq ?_
    refine Body.region ?_
    refine Ops.s (Stp.box (lk rfl) rfl (fun b3 => ?_)) rfl
    refine Ops.u (Dtu.asg (lk rfl)) rfl ?_
    refine Ops.u (Dtu.asg (lk rfl)) rfl ?_
    refine Ops.u (Dtu.asg (lk rfl)) rfl ?_
    refine Ops.nil ?_
    refine Then.next ?_
    refine Body.seq ?_
    refine Body.block ?_
    refine Body.seq ?_
    refine Body.region ?_
    refine Ops.u (Dtu.mv (lk rfl)) rfl ?_
    refine Ops.s (Stp.call rfl Try.call39 (lks rfl) (fun E' le hat => made_r E' _ _ (by first | exact At.mono (by assumption) le | exact hat _ (.head _) | exact hat _ (.tail _ (.head _)) | exact hat _ (.tail _ (.tail _ (.head _))) | exact hat _ (.tail _ (.tail _ (.tail _ (.head _)))) | exact hat _ (.tail _ (.tail _ (.tail _ (.tail _ (.head _))))) | exact hat _ (.tail _ (.tail _ (.tail _ (.tail _ (.tail _ (.head _)))))) | exact hat _ (.tail _ (.tail _ (.tail _ (.tail _ (.tail _ (.tail _ (.head _))))))) | exact hat _ (.tail _ (.tail _ (.tail _ (.tail _ (.tail _ (.tail _ (.tail _ (.head _)))))))) | exact hat _ (.tail _ (.tail _ (.tail _ (.tail _ (.tail _ (.tail _ (.tail _ (.tail _ (.head _))))))))) | exact hat _ (.tail _ (.tail _ (.tail _ (.tail _ (.tail _ (.tail _ (.tail _ (.tail _ (.tail _ (.head _)))))))))))) ?_) rfl
    rintro _ _ ⟨rfl, rfl⟩
    refine Ops.u (Dtu.not (lk rfl)) rfl ?_
    refine Ops.u (Dtu.asg (lk rfl)) rfl ?_
    refine Ops.nil ?_
    refine Then.next ?_
    refine Body.condF (lk rfl) ?_
    refine Body.seq ?_
    refine Body.region ?_
    refine Ops.d (Det.lda Try.isAgg35 Try.sizeOf35 (lk rfl) (Rds.ow (m := 4) 0 rfl rfl) rfl) rfl ?_
    refine Ops.s (Stp.call rfl Try.call40 (lks rfl) (fun E' le hat => right_ok E' p (hd.mono le)) ?_) rfl
    rintro _ _ ⟨rfl, rfl⟩
    refine Ops.u (Dtu.notP (lk rfl)) rfl ?_
    refine Ops.u (Dtu.asg (lk rfl)) rfl ?_
    refine Ops.nil ?_
    refine Then.next ?_
    refine Body.condP (lk rfl) (fun _ => ?_) (fun hn => absurd (by first | omega | assumption | decide) hn)
    refine Body.seq ?_
    refine Body.region ?_
    refine Ops.u (Dtu.asg (lk rfl)) rfl ?_
    refine Ops.u (Dtu.asg (lk rfl)) rfl ?_
    refine Ops.u (Dtu.asg (lk rfl)) rfl ?_
    refine Ops.nil ?_
    refine Then.next ?_
    refine Body.ret ?_
    refine Blk.ret ?_
    refine Then.ret ?_
    (exact ⟨.inr rfl, _, fun w s => osl_nil (t := 5) (sz := 1) (a := none) (pk [1] rfl w s), _, rfl, rfl⟩)
end Go.Proofs.Ytagcpamchgpgiaa
end
section
/- What becomes of a table; a frame's parts, put in any order: the plain law. -/
namespace Go.Proofs.Ytagcpamchgpgiaa
set_option maxRecDepth 100000
set_option maxHeartbeats 4000000
set_option linter.unusedVariables false
set_option linter.unusedSimpArgs false
open Go.Sx
theorem upd_ok {T : Tb} {A C : List FR} {F F' : FR} (hfs : T.fs = A ++ F :: C) (h : T.Ok) (hF : F'.Ok) (hid : F'.id = F.id) : (T.upd F').Ok ∧ T.upd F' = ⟨T.floor, A ++ F' :: C⟩ := by
  obtain ⟨fl, fs⟩ := T
  dsimp only at hfs
  subst hfs
  have hn := h.nd
  simp only [List.map_append, List.map_cons] at hn
  rw [List.nodup_append, List.nodup_cons] at hn
  have hu := upd_at (A := A) (C := C) (F := F) (F' := F') (fl := fl) hid (fun x hx he => hn.2.2 _ (List.mem_map_of_mem hx) _ (.head _) he) (fun x hx he => hn.2.1.1 (by rw [← he]; exact List.mem_map_of_mem hx))
  rw [hu]
  exact ⟨ok_at h hid hF, rfl⟩
theorem find_dec {T : Tb} {id : Nat} {F : FR} (h : T.find id = some F) : F.id = id ∧ ∃ A C, T.fs = A ++ F :: C := by
  obtain ⟨h1, A, C, h2, h3⟩ := List.find?_eq_some_iff_append.1 h
  exact ⟨by simpa using h1, A, C, h2⟩
theorem fin_ok {T : Tb} {A C : List FR} {F F' : FR} (hfs : T.fs = A ++ F :: C) (h : T.Ok) (hF : F'.Ok) (hid : F'.id = F.id) :
    (T.fin F').2.Ok ∧ T.floor ≤ (T.fin F').2.floor ∧ ((T.fin F').1.is = true → (T.fin F').1.e = 0 ∧ T.floor ≤ F'.id ∧ (T.fin F').2.floor = F'.id + 1) := by
  have h1 := (upd_ok hfs h hF hid).1
  have h2 : T.floor ≤ F'.id := by rw [hid]; exact h.ge F (by rw [hfs]; simp)
  have h3 := hF.i1
  unfold Tb.fin
  split
  · exact ⟨h1, Nat.le_refl _, fun h => by cases h⟩
  · exact ⟨h1.raise (by simp only [Tb.upd]; omega) (by omega), by simp only [Tb.raise]; omega, fun _ => ⟨rfl, h2, rfl⟩⟩
theorem Tb.put_ok {T : Tb} (h : T.Ok) (p : Prt) : (T.put p).2.Ok ∧ T.floor ≤ (T.put p).2.floor ∧ ((T.put p).1.is = true → (T.put p).1.e = 0 ∧ T.floor ≤ p.id ∧ (T.put p).2.floor = p.id + 1) := by
  unfold Tb.put
  split
  · rename_i hok
    split
    · exact ⟨h, Nat.le_refl _, fun h => by cases h⟩
    · rename_i hfl
      split
      · rename_i hf
        have hfn : ∀ F ∈ T.fs, F.id ≠ p.id := fun F hF he => by
          have := List.find?_eq_none.1 hf F hF
          simp [he] at this
        split
        · exact ⟨h, Nat.le_refl _, fun h => by cases h⟩
        · rename_i hfull
          have hfull : T.full p.id = false := by simpa using hfull
          have hrf := Tb.room_floor h (Nat.le_of_not_lt hfl) hfull hfn
          have hadd := Tb.add_ok (Tb.room_ok h) (Tb.room_len h) (FR.new_ok hok) hrf (fun F hF => hfn F (T.room_le F hF))
          have hc0 := hok.c0
          have hfo := fin_ok (F := FR.new p.id p.ct.toNat) (F' := (FR.new p.id p.ct.toNat).put p.ix.toNat p.d) (A := T.room.fs) (C := []) rfl hadd (FR.put_ok hok (FR.new_ok hok) (by simp only [FR.new]; omega)) rfl
          have hr : T.floor ≤ T.room.floor := by
            unfold Tb.room
            split
            · exact Nat.le_refl _
            · have hw0 := T.waits_ok h T.waits[0]! (by rw [getElem!_pos T.waits 0 (by rw [T.waits_len]; omega)]; exact List.getElem_mem _)
              simp only [Tb.raise]; omega
          refine ⟨hfo.1, Nat.le_trans hr hfo.2.1, fun hi => ?_⟩
          obtain ⟨q1, q2, q3⟩ := hfo.2.2 hi
          exact ⟨q1, Nat.le_of_not_lt hfl, q3⟩
      · rename_i F hf
        obtain ⟨hid, A, C, hfs⟩ := find_dec hf
        have hFok := h.ok F (by rw [hfs]; simp)
        split
        · exact ⟨h, Nat.le_refl _, fun h => by cases h⟩
        · rename_i hcc
          split
          · exact ⟨h, Nat.le_refl _, fun h => by cases h⟩
          · have hfo := fin_ok hfs h (FR.put_ok hok hFok (Decidable.of_not_not hcc)) rfl
            refine ⟨hfo.1, hfo.2.1, fun hi => ?_⟩
            obtain ⟨q1, q2, q3⟩ := hfo.2.2 hi
            have e : (F.put p.ix.toNat p.d).id = p.id := hid
            rw [e] at q2 q3
            exact ⟨q1, q2, q3⟩
  · exact ⟨h, Nat.le_refl _, fun h => by cases h⟩
/-! ### a frame's parts -/
theorem SplitOf.pok {id : Nat} {fr : List Int} {ps : List Prt} {L : List HProp} (h : SplitOf id fr ps L) (hn : fr.length ≤ 24000) (h1 : 1 ≤ id) (h2 : id ≤ 4611686018427387903) : ∀ i, i < ps.length → ps[i]!.Ok := fun i hi => by
  have hl := h.len
  have hd := h.d i hi
  have hdl : ps[i]!.d.length = min 480 (fr.length - 480 * i) := by rw [hd, List.length_take, List.length_drop]
  have hc : countS fr.length = max 1 ((fr.length + 479) / 480) := rfl
  rw [Prt.ok_iff, h.id i hi, h.ix i hi, h.ct i hi]
  refine ⟨h1, h2, ?_, ?_, ?_, ?_, ?_, ?_, ?_⟩ <;> omega
/-- what came, as bytes -/
def gotOf (ps : List Prt) (came : List Bool) : List (Option (List Int)) := (List.range 64).map fun i => if came[i]! then some ps[i]!.d else none
def tbOf (id : Nat) (ps : List Prt) (came : List Bool) : Tb := ⟨1, if came.any id' then [⟨id, ps.length, gotOf ps came⟩] else []⟩
where id' (b : Bool) : Bool := b
theorem gotOf_len (ps : List Prt) (came : List Bool) : (gotOf ps came).length = 64 := by simp [gotOf]
theorem gotOf_at {ps : List Prt} {came : List Bool} {i : Nat} (h : i < 64) : (gotOf ps came)[i]! = if came[i]! then some ps[i]!.d else none := by
  rw [getElem!_pos _ i (by rw [gotOf_len]; exact h)]; simp [gotOf]
theorem gotOf_set {ps : List Prt} {came : List Bool} {k : Nat} (hl : came.length = 64) (hk : k < 64) : gotOf ps (came.set k true) = (gotOf ps came).set k (some ps[k]!.d) := by
  refine List.ext_getElem (by simp [gotOf]) fun i h1 h2 => ?_
  have hi : i < 64 := by rw [gotOf_len] at h1; exact h1
  rw [List.getElem_set]
  simp only [gotOf, List.getElem_map, List.getElem_range]
  rw [getElem!_pos _ i (by simp; omega), getElem!_pos came i (by omega), List.getElem_set]
  by_cases h : k = i
  · subst h; simp
  · simp [h]
theorem gotOf_none {ps : List Prt} {came : List Bool} (h : came.any tbOf.id' = false) : gotOf ps came = List.replicate 64 none := by
  refine List.ext_getElem (by simp [gotOf]) fun i h1 h2 => ?_
  have hi : i < 64 := by rw [gotOf_len] at h1; exact h1
  simp only [gotOf, List.getElem_map, List.getElem_range, List.getElem_replicate]
  have : came[i]! = false := by
    by_cases hl : i < came.length
    · rw [getElem!_pos came i hl]
      have := List.any_eq_false.1 h came[i] (List.getElem_mem _)
      simpa [tbOf.id'] using this
    · rw [getElem!_neg came i hl]; rfl
  rw [this]; rfl
theorem gotOf_cnt {ps : List Prt} {came : List Bool} (hl : came.length = 64) : (gotOf ps came).countP Option.isSome = came.countP tbOf.id' := by
  have e : came = (List.range 64).map fun i => came[i]! := by
    refine List.ext_getElem (by simp [hl]) fun i h1 h2 => ?_
    simp only [List.getElem_map, List.getElem_range]
    rw [getElem!_pos came i h1]
  conv => rhs; rw [e]
  rw [gotOf, List.countP_map, List.countP_map]
  congr 1
  funext i
  simp only [Function.comp, tbOf.id']
  cases came[i]! <;> rfl
theorem chunk_all (fr : List Int) : ∀ n, fr.length ≤ 480 * n → ((List.range n).map fun i => (fr.drop (480 * i)).take 480).flatten = fr := by
  have key : ∀ n, ((List.range n).map fun i => (fr.drop (480 * i)).take 480).flatten = fr.take (480 * n) := fun n => by
    induction n with
    | zero => simp
    | succ n ih =>
      rw [List.range_succ, List.map_append, List.flatten_append, ih]
      simp only [List.map_cons, List.map_nil, List.flatten_cons, List.flatten_nil, List.append_nil]
      rw [Nat.mul_succ, List.take_add]
  intro n hn
  rw [key, List.take_of_length_le hn]
theorem frame_whole {id : Nat} {fr : List Int} {ps : List Prt} {L : List HProp} {came : List Bool} (h : SplitOf id fr ps L) (hn : fr.length ≤ 24000) (hc : ∀ i, i < ps.length → came[i]! = true) : (⟨id, ps.length, gotOf ps came⟩ : FR).frame = fr := by
  have hl := h.len
  have hcs : countS fr.length = max 1 ((fr.length + 479) / 480) := rfl
  rw [FR.frame, List.flatMap_def]
  have : (((gotOf ps came).take ps.length).map fun o => o.getD []) = (List.range ps.length).map fun i => (fr.drop (480 * i)).take 480 := by
    refine List.ext_getElem (by simp [gotOf]; omega) fun i h1 h2 => ?_
    have hi : i < ps.length := by simpa using h2
    simp only [List.getElem_map, List.getElem_take, List.getElem_range, gotOf]
    rw [hc i hi, ← h.d i hi]; rfl
  rw [this]
  exact chunk_all fr _ (by omega)
theorem came_ok {id : Nat} {fr : List Int} {ps : List Prt} {L : List HProp} {came : List Bool} (h : SplitOf id fr ps L) (hn : fr.length ≤ 24000) (h1 : 1 ≤ id) (h2 : id ≤ 4611686018427387903) (hc : ∀ i, came[i]! = true → i < ps.length) : (⟨id, ps.length, gotOf ps came⟩ : FR).Ok := by
  have hl := h.len
  have hcs : countS fr.length = max 1 ((fr.length + 479) / 480) := rfl
  refine ⟨gotOf_len _ _, by dsimp only; omega, by dsimp only; omega, h1, h2, fun i d hi => ?_⟩
  dsimp only at hi ⊢
  have hi64 : i < 64 := by have := (List.getElem?_eq_some_iff.1 hi).1; rwa [gotOf_len] at this
  rw [List.getElem?_eq_getElem (by rw [gotOf_len]; exact hi64), ← getElem!_pos (gotOf ps came) i (by rw [gotOf_len]; exact hi64), gotOf_at hi64] at hi
  split at hi
  · rename_i hca
    have hlt := hc i hca
    have e := Option.some.inj (Option.some.inj hi)
    have hok := h.pok hn h1 h2 i hlt
    have q1 := hok.d0; have q2 := hok.d1; have q3 := hok.d2
    rw [h.ct i hlt] at q2 q3
    rw [h.ix i hlt] at q3
    subst e
    exact ⟨hlt, q1, fun hz => by have := q2 hz; omega, q3.imp (fun h => h) fun h => by omega⟩
  · simp at hi
theorem put_next {id : Nat} {fr : List Int} {ps : List Prt} {L : List HProp} {came : List Bool} {k : Nat} (h : SplitOf id fr ps L) (hn : fr.length ≤ 24000) (h1 : 1 ≤ id) (h2 : id ≤ 4611686018427387903) (hk : k < ps.length) (hc : came[k]! = false) (hcl : came.length = 64) (hcb : ∀ i, came[i]! = true → i < ps.length) :
    (tbOf id ps came).put ps[k]! = if came.countP tbOf.id' + 1 < ps.length then (⟨[], false, 0⟩, tbOf id ps (came.set k true)) else (⟨fr, true, 0⟩, ⟨id + 1, []⟩) := by
  have hl := h.len
  have hcs : countS fr.length = max 1 ((fr.length + 479) / 480) := rfl
  have hok := h.pok hn h1 h2 k hk
  have hF : ∀ F' : FR, F' = ⟨id, ps.length, gotOf ps (came.set k true)⟩ → (⟨1, [⟨id, ps.length, gotOf ps came⟩]⟩ : Tb).fin F' = if came.countP tbOf.id' + 1 < ps.length then (⟨[], false, 0⟩, tbOf id ps (came.set k true)) else (⟨fr, true, 0⟩, ⟨id + 1, []⟩) := fun F' hF => by
    have hcnt : (came.set k true).countP tbOf.id' = came.countP tbOf.id' + 1 := by
      rw [List.countP_set (by omega)]
      rw [getElem!_pos came k (by omega)] at hc
      simp [hc, tbOf.id']
    have hleft : F'.left = ps.length - (came.countP tbOf.id' + 1) := by rw [hF, FR.left, gotOf_cnt (by rw [List.length_set]; exact hcl), hcnt]
    have hany : (came.set k true).any tbOf.id' = true := List.any_eq_true.2 ⟨true, List.mem_iff_getElem.2 ⟨k, by simp; omega, by simp⟩, rfl⟩
    rw [Tb.fin, hleft]
    by_cases hlt : came.countP tbOf.id' + 1 < ps.length
    · rw [if_pos (by omega), if_pos hlt]
      congr 1
      rw [hF]
      simp [Tb.upd, tbOf, hany]
    · rw [if_neg (by omega), if_neg hlt]
      have hall : ∀ i, i < ps.length → (came.set k true)[i]! = true := by
        have hok' : (⟨id, ps.length, gotOf ps (came.set k true)⟩ : FR).Ok := came_ok h hn h1 h2 fun i hi => by
          by_cases h : k = i
          · omega
          · refine hcb i ?_
            by_cases hl : i < came.length
            · rw [getElem!_pos _ i (by simpa using hl), List.getElem_set_ne h] at hi
              rw [getElem!_pos came i hl]; exact hi
            · rw [getElem!_neg _ i (by simpa using hl)] at hi; cases hi
        have hz : (⟨id, ps.length, gotOf ps (came.set k true)⟩ : FR).left = 0 := by rw [← hF, hleft]; omega
        intro i hi
        obtain ⟨d, hd⟩ := FR.all_came hok' hz i hi
        have hi64 : i < 64 := by have := (List.getElem?_eq_some_iff.1 hd).1; rwa [gotOf_len] at this
        dsimp only at hd
        rw [List.getElem?_eq_getElem (by rw [gotOf_len]; exact hi64), ← getElem!_pos (gotOf ps (came.set k true)) i (by rw [gotOf_len]; exact hi64), gotOf_at hi64] at hd
        split at hd
        · rename_i hh; exact hh
        · simp at hd
      rw [hF, frame_whole h hn hall]
      simp [Tb.upd, Tb.raise]
  have hset : (⟨id, ps.length, (gotOf ps came).set k (some ps[k]!.d)⟩ : FR) = ⟨id, ps.length, gotOf ps (came.set k true)⟩ := by rw [gotOf_set hcl (by omega)]
  cases hany : came.any tbOf.id' with
  | true =>
    have hT : tbOf id ps came = ⟨1, [⟨id, ps.length, gotOf ps came⟩]⟩ := by unfold tbOf; rw [if_pos hany]
    rw [hT]
    have hf : (⟨1, [⟨id, ps.length, gotOf ps came⟩]⟩ : Tb).find ps[k]!.id = some ⟨id, ps.length, gotOf ps came⟩ := by rw [h.id k hk]; simp [Tb.find]
    rw [Tb.put, if_pos hok, if_neg (by rw [h.id k hk]; dsimp only; omega), hf]
    dsimp only
    rw [if_neg (by rw [h.ct k hk, hl]; simp), if_neg (by rw [h.ix k hk, Int.toNat_natCast, gotOf_at (by omega), hc]; simp)]
    refine hF _ ?_
    rw [h.ix k hk, Int.toNat_natCast]
    exact hset
  | false =>
    have hT : tbOf id ps came = ⟨1, []⟩ := by unfold tbOf; rw [if_neg (by rw [hany]; simp)]
    rw [hT]
    have hfull : (⟨1, []⟩ : Tb).full ps[k]!.id = false := by simp [Tb.full]
    have hroom : (⟨1, []⟩ : Tb).room = ⟨1, []⟩ := by simp [Tb.room]
    rw [Tb.put, if_pos hok, if_neg (by rw [h.id k hk]; dsimp only; omega)]
    have hf : (⟨1, []⟩ : Tb).find ps[k]!.id = none := rfl
    rw [hf]
    dsimp only
    rw [hfull, hroom, h.id k hk, h.ct k hk, h.ix k hk, Int.toNat_natCast, Int.toNat_natCast, ← hl]
    have hnew : (⟨1, []⟩ : Tb).add (FR.new id ps.length) = ⟨1, [⟨id, ps.length, gotOf ps came⟩]⟩ := by rw [gotOf_none hany]; rfl
    rw [hnew]
    refine hF _ ?_
    rw [← hset, gotOf_none hany]; rfl
theorem put_old {id : Nat} {fr : List Int} {ps : List Prt} {L : List HProp} {k : Nat} (h : SplitOf id fr ps L) (hn : fr.length ≤ 24000) (h1 : 1 ≤ id) (h2 : id ≤ 4611686018427387903) (hk : k < ps.length) : (⟨id + 1, []⟩ : Tb).put ps[k]! = (⟨[], false, 23⟩, ⟨id + 1, []⟩) := by
  rw [Tb.put, if_pos (h.pok hn h1 h2 k hk), if_pos (by rw [h.id k hk]; dsimp only; omega)]
end Go.Proofs.Ytagcpamchgpgiaa
end
