/- My own logic of ownership over the model, part B: as many owned things as a list has, as one. -/
import Derived.Test.YtijjjdljdjnbaaaSxA
namespace Go.Sx
open Go
set_option linter.unusedVariables false
/-- all of these are owned -/
def many (L : List HProp) : HProp := fun h => Sat L h
theorem many_iff {E : Env} {L H : List HProp} {w : World} : St E (many L :: H) w ↔ St E (L ++ H) w := by
  constructor
  · intro s
    obtain ⟨h, ⟨h1, h2, a, b, c, d⟩, dE, l⟩ := s.has
    exact ⟨⟨h, Sat.append.2 ⟨h1, h2, a, b, c, d⟩, dE, l⟩, s.keep, s.os, s.tape, s.output⟩
  · intro s
    obtain ⟨h, hs, dE, l⟩ := s.has
    obtain ⟨h1, h2, a, b, c, d⟩ := Sat.append.1 hs
    exact ⟨⟨h, ⟨h1, h2, a, b, c, d⟩, dE, l⟩, s.keep, s.os, s.tape, s.output⟩
theorem many_nil {E : Env} {H : List HProp} {w : World} (s : St E H w) : St E (many [] :: H) w := many_iff.2 s
theorem many_snoc {E : Env} {A : HProp} {L H : List HProp} {w : World} (s : St E (A :: many L :: H) w) : St E (many (L ++ [A]) :: H) w := by
  have s1 : St E (L ++ (A :: H)) w := many_iff.1 (s.perm (List.Perm.swap _ _ _))
  rw [many_iff]
  simpa using s1
theorem Sl.many {E : Env} {H L : List HProp} {t : TypeId} {sz m : Nat} {v : Value} {vs : List Value} (i j : Nat) (hi : H[i]? = some (Sx.many L)) (hj : L[j]? = some (Sx.osl t sz v m vs)) : Sl E H sz v m vs := fun w s => by
  have s1 := many_iff.1 (s.get hi)
  have hj2 : (L ++ H.eraseIdx i)[j]? = some (Sx.osl t sz v m vs) := by
    rw [List.getElem?_append_left (List.getElem?_eq_some_iff.1 hj).1]; exact hj
  exact Sl.osl (E := E) (H := L ++ H.eraseIdx i) j hj2 w s1
theorem Sl.atMany {E : Env} {L : List HProp} {t : TypeId} {sz m : Nat} {v : Value} {vs : List Value} (j : Nat) (h : At (Sx.many L) E) (hj : L[j]? = some (Sx.osl t sz v m vs)) : Sl E [] sz v m vs := by
  obtain ⟨x, hx, le⟩ := h
  have : ∀ (H : List HProp) (h : Hp) (A : HProp), Sat H h → A ∈ H → ∃ y, A y ∧ y.Le h := by
    intro H
    induction H with
    | nil => intro h A _ hm; cases hm
    | cons B H ih =>
      intro h A hs hm
      obtain ⟨h1, h2, a, b, c, rfl⟩ := hs
      rcases List.mem_cons.1 hm with rfl | hm
      · exact ⟨h1, a, Hp.le_union_left _ _⟩
      · obtain ⟨y, hy, l⟩ := ih h2 A b hm
        exact ⟨y, hy, l.trans (Hp.le_union_right c)⟩
  obtain ⟨y, hy, l⟩ := this L x _ hx (List.mem_of_getElem? hj)
  exact Sl.at ⟨y, hy, l.trans le⟩
theorem Sl.litLen {E : Env} {H : List HProp} {sz m k c : Nat} {a : Option Addr} {vs : List Value} (h : Sl E H sz (.slice a m c) k vs) : ∀ w, St E H w → m = k := fun w s => by
  rcases (h w s).val with ⟨rfl, a', c', e, _⟩ | ⟨cap, e, _⟩
  · injection e
  · injection e
section
variable {P : Program} {n : Nat} {E : Env} {H : List HProp} {K : Kont} {F : List Ent}
theorem Round.goW {γ : Type} {W : List Nat} {L : γ → List (Nat × Value)} {Hs : γ → List HProp} {Φ : γ → Prop} {μ : γ → Nat} {F0 : List Ent} {g : γ} {u : Fr} {A : List Ent} (g' : γ) (_hs : splitF F0.length F = some A) (hF : F = A ++ .many W u :: F0) (hA : inW W A = true) (hL : LookAll F (L g')) (hH : ∀ w, St E H w → St E (Hs g') w) (h : Φ g') (hm : μ g' < μ g) :
    Round (HeadF W L Hs Φ F0 E) μ g K .norm (fr F) H := by
  subst hF
  refine ⟨g', ⟨h, hH, fr (A ++ .many W u :: F0), ?_⟩, hm⟩
  funext t
  exact (fr_sets (F := A ++ .many W u :: F0) (L g') hL (fun t => fr_many A hA t) t).symm
theorem Joint.goW {γ : Type} {W : List Nat} {L : γ → List (Nat × Value)} {Hs : γ → List HProp} {Φ : γ → Prop} {F0 : List Ent} {A : List Ent} (g' : γ) (_hs : splitJ F0.length F = some A) (hF : F = A ++ F0) (hA : inW W A = true) (hL : LookAll F (L g')) (hH : ∀ w, St E H w → St E (Hs g') w) (h : Φ g') :
    Joint (fun f H => ∃ g, HeadF W L Hs Φ F0 E g f H) K .norm (fr F) H := by
  subst hF
  refine ⟨g', h, hH, fr (A ++ F0), ?_⟩
  funext t
  refine (fr_sets (F := A ++ F0) (L g') hL (fun t => ?_) t).symm
  simp only [fr, mix]
  cases hW : W.any (Nat.beq t) with
  | true => rfl
  | false => rw [cond_false]; exact (fr_out hW A hA).symm
/-- take some of what is owned to the front -/
theorem St.front {w : World} {c f : List HProp} (is : List Nat) (hp : pick is H = some (c, f)) (s : St E H w) : St E (c ++ f) w := s.perm (pick_perm hp)
end
end Go.Sx
