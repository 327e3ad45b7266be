/- Patches: Apply. -/
import Derived.Test.YtijjjdljdjnbaaaPatE
namespace Go.Proofs.Ytijjjdljdjnbaaa
set_option maxRecDepth 100000
set_option linter.unusedVariables false
set_option linter.unusedSimpArgs false
open Go.Sx

/-- cells with others laid on them -/
def lay (B : List Cell) (i : Nat) (l : List Cell) : List Cell := B.take i ++ l ++ B.drop (i + l.length)
def applyL : List Cell → Nat → List Run → List Cell
  | B, _, [] => B
  | B, a, (k, l) :: t => if B.length < a + k.toNat ∨ B.length - (a + k.toNat) < l.length then [] else applyL (lay B (a + k.toNat) l) (a + k.toNat + l.length) t
def applyW (a : View) (bs : List Int) (rs : List Run) : View := ⟨bs[0]!, bs[1]!, applyL (baseC a bs[0]! bs[1]!) 0 rs, bs[2]!, bs[3]!, decide (bs[4]! = 1)⟩
/-- the view to which bytes are a patch -/
def applyV (a : View) (bs : List Int) : Option View :=
  match runsP bs with
  | none => none
  | some rs => if a.ok = false ∨ 12 < bs[0]! ∨ 40 < bs[1]! then none else if (applyW a bs rs).ok = true ∧ difB a (applyW a bs rs) = bs then some (applyW a bs rs) else none
theorem lay_len {B l : List Cell} {i : Nat} (h : i + l.length ≤ B.length) : (lay B i l).length = B.length := by simp [lay]; omega
def RunFine (r : Run) : Prop := (0 ≤ r.1 ∧ r.1 ≤ 24000) ∧ ∀ c ∈ r.2, c.Fl
theorem readN_fl (bs : List Int) (hb : Byt bs) : ∀ (k : Nat) (cs : List Cell) (a : Int) {x : List Cell × Int}, readN bs k cs a = some x → (∀ c ∈ cs, c.Fl) → ∀ c ∈ x.1, c.Fl
  | 0, cs, a, x, h, hc => by
    simp only [readN, Option.some.injEq] at h; subst h; exact hc
  | k + 1, cs, a, x, h, hc => by
    simp only [readN] at h
    split at h
    · cases h
    · refine readN_fl bs hb k _ _ h fun c hm => ?_
      rcases List.mem_append.1 hm with hm | hm
      · exact hc c hm
      · rw [List.mem_singleton.1 hm]; exact cellR_fl bs hb a
theorem readRs_fine (bs : List Int) (hb : Byt bs) : ∀ (k : Nat) (rs : List Run) (a : Int) {x : List Run}, readRs bs k rs a = some x → (∀ r ∈ rs, RunFine r) → ∀ r ∈ x, RunFine r
  | 0, rs, a, x, h, hc => by cases h
  | k + 1, rs, a, x, h, hc => by
    simp only [readRs] at h
    split at h
    · split at h
      · cases h
      · split at h
        · cases h
        · split at h
          · cases h
          · rename_i cs a' hN
            refine readRs_fine bs hb k _ _ h fun r hm => ?_
            rcases List.mem_append.1 hm with hm | hm
            · exact hc r hm
            · rw [List.mem_singleton.1 hm]
              have := getS_bound bs hb a
              exact ⟨by dsimp only; omega, readN_fl bs hb _ _ _ hN (by simp)⟩
    · simp only [Option.some.injEq] at h; subst h; exact hc
theorem runsP_fine {bs : List Int} (hb : Byt bs) {rs : List Run} (h : runsP bs = some rs) : ∀ r ∈ rs, RunFine r := by
  unfold runsP at h
  split at h
  · cases h
  · exact readRs_fine bs hb _ _ _ h (by simp)
theorem runsP_len {bs : List Int} {rs : List Run} (h : runsP bs = some rs) : 5 ≤ bs.length := by
  unfold runsP at h
  split at h
  · cases h
  · omega
theorem lay_fl {B l : List Cell} {i : Nat} (h1 : ∀ c ∈ B, c.Fl) (h2 : ∀ c ∈ l, c.Fl) : ∀ c ∈ lay B i l, c.Fl := fun c hc => by
  simp only [lay, List.mem_append] at hc
  rcases hc with (hc | hc) | hc
  · exact h1 c (List.mem_of_mem_take hc)
  · exact h2 c hc
  · exact h1 c (List.mem_of_mem_drop hc)
theorem applyL_fl : ∀ (rs : List Run) (B : List Cell) (a : Nat), (∀ c ∈ B, c.Fl) → (∀ r ∈ rs, RunFine r) → ∀ c ∈ applyL B a rs, c.Fl
  | [], B, a, h, _ => h
  | (k, l) :: t, B, a, h, hr => by
    simp only [applyL]
    split
    · simp
    · exact applyL_fl t _ _ (lay_fl h (hr (k, l) (by simp)).2) fun r hm => hr r (by simp [hm])
theorem baseC_fl {a : View} (h : ∀ c ∈ a.cells, c.Fl) (r k : Int) : ∀ c ∈ baseC a r k, c.Fl := by
  unfold baseC
  split
  · exact h
  · intro c hc
    rw [(List.mem_replicate.1 hc).2]; exact ⟨by decide, by decide⟩
theorem baseC_len {a : View} {r k : Int} (h : 0 ≤ r ∧ r ≤ 12 ∧ 0 ≤ k ∧ k ≤ 40) (ha : a.cells.length ≤ 480) : (baseC a r k).length ≤ 480 := by
  have := mul_bound0 h
  unfold baseC
  split
  · exact ha
  · rw [List.length_replicate]; omega
theorem encR_byt {r : Nat × List Cell} (h : ∀ c ∈ r.2, c.ok = true ∧ c.Fl) (h1 : r.1 < 1000000) (h2 : r.2.length < 1000000) : BytM (encR r) := by
  have hc : ∀ l : List Cell, (∀ c ∈ l, c.ok = true ∧ c.Fl) → BytM (l.flatMap Cell.bytes) := by
    intro l
    induction l with
    | nil => intro _; exact .nil
    | cons c t ih => intro h; exact .append (c.bytes_byt (h c (by simp)).1 (h c (by simp)).2) (ih fun d hd => h d (by simp [hd]))
  exact .append (putL_byt (by omega) (by omega)) (.append (putL_byt (by omega) (by omega)) (hc _ h))
theorem difR_bound : ∀ (ps : List (Cell × Cell)) (k : Nat) (run : List Cell) (r : Nat × List Cell), r ∈ difR k run ps → r.1 ≤ k + ps.length + 1 ∧ r.2.length ≤ run.length + ps.length ∧ ∀ c ∈ r.2, c ∈ run ∨ c ∈ ps.map Prod.snd
  | [], k, run, r, h => by
    simp only [difR] at h
    split at h
    · cases h
    · rw [List.mem_singleton.1 h]; exact ⟨by simp only [List.length_nil]; omega, by simp, fun c hc => .inl hc⟩
  | (x, y) :: t, k, run, r, h => by
    simp only [difR] at h
    split at h
    · split at h
      · obtain ⟨h1, h2, h3⟩ := difR_bound t _ _ r h
        refine ⟨by simp; omega, by simp at h2 ⊢; omega, fun c hc => ?_⟩
        rcases h3 c hc with h | h
        · cases h
        · exact .inr (by simp at h ⊢; exact .inr h)
      · rcases List.mem_cons.1 h with rfl | h
        · exact ⟨by simp only; omega, by simp, fun c hc => .inl hc⟩
        · obtain ⟨h1, h2, h3⟩ := difR_bound t _ _ r h
          refine ⟨by simp; omega, by simp at h2 ⊢; omega, fun c hc => ?_⟩
          rcases h3 c hc with h | h
          · cases h
          · exact .inr (by simp at h ⊢; exact .inr h)
    · obtain ⟨h1, h2, h3⟩ := difR_bound t _ _ r h
      refine ⟨by simp; omega, by simp at h2 ⊢; omega, fun c hc => ?_⟩
      rcases h3 c hc with h | h
      · rcases List.mem_append.1 h with h | h
        · exact .inl h
        · rw [List.mem_singleton.1 h]; exact .inr (by simp)
      · exact .inr (by simp at h ⊢; exact .inr h)
theorem flatMap_byt {α : Type} {f : α → List Int} : ∀ {l : List α}, (∀ x ∈ l, BytM (f x)) → BytM (l.flatMap f)
  | [], _ => .nil
  | x :: t, h => .append (h x (by simp)) (flatMap_byt fun y hy => h y (by simp [hy]))
theorem difB_byt {a b : View} (hb : b.ok = true) (hf : ∀ c ∈ b.cells, c.Fl) : Byt (difB a b) := by
  obtain ⟨⟨hrc, f1, f2, f3, f4, f5⟩, hc⟩ := View.ok_fits hb
  have hm := mul_bound hrc
  have hl : ((baseC a b.rows b.cols).zip b.cells).length ≤ 480 := by rw [List.length_zip]; omega
  refine BytM.byt (.append (.cons (by omega) (.cons (by omega) (.cons (by omega) (.cons (by omega) (.cons ?_ .nil))))) (flatMap_byt fun r hr => ?_))
  · split <;> omega
  · obtain ⟨h1, h2, h3⟩ := difR_bound _ _ _ r hr
    refine encR_byt (fun c hcm => ?_) (by omega) (by simp at h2; omega)
    rcases h3 c hcm with h | h
    · cases h
    · have : c ∈ b.cells := by
        obtain ⟨p, hp, rfl⟩ := List.mem_map.1 h
        exact (List.of_mem_zip hp).2
      exact ⟨hc c this, hf c this⟩
end Go.Proofs.Ytijjjdljdjnbaaa
