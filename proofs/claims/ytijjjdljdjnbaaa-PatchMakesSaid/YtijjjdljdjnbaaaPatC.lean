/- Patches: Diff. -/
import Derived.Test.YtijjjdljdjnbaaaPatB
namespace Go.Proofs.Ytijjjdljdjnbaaa
set_option maxRecDepth 100000
set_option linter.unusedVariables false
set_option linter.unusedSimpArgs false
open Go.Sx

theorem take_snocD {α : Type} [Inhabited α] {l : List α} {i : Nat} (h : i < l.length) : l.take (i + 1) = l.take i ++ [l[i]!] := by
  rw [List.take_succ_eq_append_getElem h, getElem!_pos l i h]
theorem difR_eq {P : List (Cell × Cell)} {i k : Nat} (h : i < P.length) (e : P[i]!.1 = P[i]!.2) : difR k [] (P.drop i) = difR (k + 1) [] (P.drop (i + 1)) := by
  rw [getElem!_pos P i h] at e
  rw [List.drop_eq_getElem_cons h]
  generalize P[i] = p at e
  obtain ⟨x, y⟩ := p
  simp only [difR]
  rw [if_pos e]; simp
theorem difR_ne {P : List (Cell × Cell)} {i k : Nat} {run : List Cell} (h : i < P.length) (e : ¬ P[i]!.1 = P[i]!.2) : difR k run (P.drop i) = difR k (run ++ [P[i]!.2]) (P.drop (i + 1)) := by
  rw [getElem!_pos P i h] at e ⊢
  rw [List.drop_eq_getElem_cons h]
  generalize P[i] = p at e
  obtain ⟨x, y⟩ := p
  simp only [difR]
  rw [if_neg e]
theorem difR_end {P : List (Cell × Cell)} {i k : Nat} {run : List Cell} (hr : run ≠ []) (h : i < P.length → P[i]!.1 = P[i]!.2) : difR k run (P.drop i) = (k, run) :: difR 1 [] (P.drop (i + 1)) := by
  by_cases hi : i < P.length
  · have e := h hi
    rw [getElem!_pos P i hi] at e
    rw [List.drop_eq_getElem_cons hi]
    generalize P[i] = p at e
    obtain ⟨x, y⟩ := p
    simp only [difR]
    rw [if_pos e, if_neg hr]
  · rw [List.drop_eq_nil_of_le (by omega), List.drop_eq_nil_of_le (by omega)]
    simp [difR, hr]
theorem zip_at {xs ys : List Cell} (h : xs.length = ys.length) {i : Nat} (hi : i < ys.length) : (xs.zip ys)[i]!.1 = xs[i]! ∧ (xs.zip ys)[i]!.2 = ys[i]! := by
  rw [getElem!_pos (xs.zip ys) i (by simp; omega), getElem!_pos xs i (by omega), getElem!_pos ys i hi]
  simp
theorem run_snoc {ys : List Cell} {i t : Nat} (h : i ≤ t) (ht : t < ys.length) : (ys.drop i).take (t + 1 - i) = (ys.drop i).take (t - i) ++ [ys[t]!] := by
  rw [show t + 1 - i = (t - i) + 1 by omega, take_snocD (by simp; omega), getElem!_pos (ys.drop i) (t - i) (by simp; omega), getElem!_pos ys t ht]
  simp only [List.getElem_drop]
  have : i + (t - i) = t := by omega
  simp only [this]
theorem diff_no (E : Env) (a b : View) (s t : Value) (ha : a.has E [] s) (hb : b.has E [] t) (h : (a.ok && b.ok) = false) : Does Try.prog 17 #[a.val s, b.val t] E [] fun r H' => r = .tuple #[.slice none 0 0, .int .i64 3] ∧ H' = [] := by
  unfold View.has at ha hb
  refine Does.pure ha.isSl fun hs => ?_
  obtain ⟨sa, sm, sc, rfl⟩ := hs
  refine Does.pure hb.isSl fun hs => ?_
  obtain ⟨ta, tm, tc, rfl⟩ := hs
  refine Does.go (args := [a.val _, b.val _]) _ _ Try.func17 rfl Try.ntmps17 rfl rfl ?_
  cases hk : a.ok with
  | false =>
    refine Body.seq ?_
    refine Body.region ?_
    refine Ops.s (Stp.box (lk rfl) rfl (fun b2 => ?_)) rfl
    refine Ops.s (Stp.box (lk rfl) rfl (fun b3 => ?_)) rfl
    refine Ops.u (Dtu.asg (lk rfl)) rfl ?_
    refine Ops.u (Dtu.asg (lk rfl)) rfl ?_
    refine Ops.nil ?_
    refine Then.next ?_
    refine Body.seq ?_
    refine Body.seq ?_
    refine Body.region ?_
    refine Ops.d (Det.lda Try.isAgg24 Try.sizeOf24 (lk rfl) (Rds.ow (m := 6) 1 rfl rfl) rfl) rfl ?_
    refine Ops.s (Stp.call rfl Try.call25 (lks rfl) (fun E' le hat => right_ok E' ⟨_, _, _, _, _, _⟩ _ (Sl.mono (by assumption) le)) ?_) rfl
    rintro _ _ ⟨rfl, rfl⟩
    refine Ops.u (Dtu.not (lk rfl)) rfl ?_
    refine Ops.u (Dtu.mv (lk rfl)) rfl ?_
    refine Ops.dec 18 rfl (fun _ => ?_) (fun hn => absurd hn (by simp [hk]))
    refine Ops.gn rfl rfl rfl rfl rfl ?_
    refine Ops.gn rfl rfl rfl rfl rfl ?_
    refine Ops.gn rfl rfl rfl rfl rfl ?_
    refine Ops.u (Dtu.pickT (lk rfl) (lk rfl)) rfl ?_
    refine Ops.nil ?_
    refine Then.next ?_
    refine Body.condT (lk rfl) ?_
    refine Body.seq ?_
    refine Body.region ?_
    refine Ops.u (Dtu.asg (lk rfl)) rfl ?_
    refine Ops.u (Dtu.asg (lk rfl)) rfl ?_
    refine Ops.nil ?_
    refine Then.next ?_
    refine Body.ret ?_
    refine Then.ret ?_
    exact ⟨.inr rfl, _, pk [] rfl, rfl, rfl⟩
  | true =>
    have hk2 : b.ok = false := by simpa [hk] using h
    refine Body.seq ?_
    refine Body.region ?_
    refine Ops.s (Stp.box (lk rfl) rfl (fun b2 => ?_)) rfl
    refine Ops.s (Stp.box (lk rfl) rfl (fun b3 => ?_)) rfl
    refine Ops.u (Dtu.asg (lk rfl)) rfl ?_
    refine Ops.u (Dtu.asg (lk rfl)) rfl ?_
    refine Ops.nil ?_
    refine Then.next ?_
    refine Body.seq ?_
    refine Body.seq ?_
    refine Body.region ?_
    refine Ops.d (Det.lda Try.isAgg24 Try.sizeOf24 (lk rfl) (Rds.ow (m := 6) 1 rfl rfl) rfl) rfl ?_
    refine Ops.s (Stp.call rfl Try.call25 (lks rfl) (fun E' le hat => right_ok E' ⟨_, _, _, _, _, _⟩ _ (Sl.mono (by assumption) le)) ?_) rfl
    rintro _ _ ⟨rfl, rfl⟩
    refine Ops.u (Dtu.not (lk rfl)) rfl ?_
    refine Ops.u (Dtu.mv (lk rfl)) rfl ?_
    refine Ops.dec 18 rfl (fun hn => absurd hn (by simp [hk])) (fun _ => ?_)
    refine Ops.gd rfl rfl rfl (Det.lda Try.isAgg24 Try.sizeOf24 (lk rfl) (Rds.ow (m := 6) 0 rfl rfl) rfl) rfl ?_
    refine Ops.gs rfl rfl rfl (Stp.call rfl Try.call25 (lks rfl) (fun E' le hat => right_ok E' ⟨_, _, _, _, _, _⟩ _ (Sl.mono (by assumption) le)) ?_) rfl
    rintro _ _ ⟨rfl, rfl⟩
    refine Ops.gu rfl rfl rfl (Dtu.not (lk rfl)) rfl ?_
    refine Ops.u (Dtu.pickF (lk rfl) (lk rfl)) rfl ?_
    refine Ops.nil ?_
    refine Then.next ?_
    refine Body.cond (lk rfl) (fun _ => ?_) (fun hn => absurd hn (by simp [hk2]))
    refine Body.seq ?_
    refine Body.region ?_
    refine Ops.u (Dtu.asg (lk rfl)) rfl ?_
    refine Ops.u (Dtu.asg (lk rfl)) rfl ?_
    refine Ops.nil ?_
    refine Then.next ?_
    refine Body.ret ?_
    refine Then.ret ?_
    exact ⟨.inr rfl, _, pk [] rfl, rfl, rfl⟩
end Go.Proofs.Ytijjjdljdjnbaaa
