/- view.Write and view.Read, whatever comes in: one contract each. -/
import Derived.Test.YtijjjdljdjnbaaaBackB
namespace Go.Proofs.Ytijjjdljdjnbaaa
set_option maxRecDepth 100000
set_option linter.unusedVariables false
set_option linter.unusedSimpArgs false
open Go.Sx

/-- what is written: nothing of what may not be -/
def View.wB (v : View) : List Int := if v.ok then v.bytes else []
def View.wE (v : View) : Int := if v.ok then 0 else 3
theorem write_any (E : Env) (v : View) (s : Value) (h : v.has E [] s) : Does Try.prog 28 #[v.val s] E [] fun r H' => ∃ s', r = .tuple #[s', .int .i64 v.wE] ∧ H' = [osl 5 1 s' v.wB.length (v.wB.map (.int .u8))] := by
  cases hk : v.ok with
  | true =>
    have e1 : v.wB = v.bytes := by simp [View.wB, hk]
    have e2 : v.wE = 0 := by simp [View.wE, hk]
    rw [e1, e2]; exact write_ok E v s h hk
  | false =>
    have e1 : v.wB = [] := by simp [View.wB, hk]
    have e2 : v.wE = 3 := by simp [View.wE, hk]
    rw [e1, e2]
    intro w s0
    refine (write_no E v s h hk w s0).mono ?_
    rintro e w' ⟨r, H', he, ⟨rfl, rfl⟩, s'⟩
    exact ⟨_, _, he, ⟨_, rfl, rfl⟩, osl_nil s'⟩
def rdV (bs : List Int) : View := (readV bs).getD View.none
def rdE (bs : List Int) : Int := match readV bs with
  | some _ => 0
  | none => 3
theorem read_any (E : Env) (b : Value) (bs : List Int) (h : Sl E [] 1 b bs.length (bs.map (.int .u8))) (hb : Byt bs) : Does Try.prog 29 #[b] E [] fun r H' => ∃ s, r = .tuple #[(rdV bs).val s, .int .i64 (rdE bs)] ∧ H' = [osl 55 4 s (rdV bs).cells.length ((rdV bs).cells.flatMap Cell.enc)] := by
  have h1 := read_ok E b bs h hb
  cases hr : readV bs with
  | some v =>
    have e1 : rdV bs = v := by simp [rdV, hr]
    have e2 : rdE bs = 0 := by simp [rdE, hr]
    rw [e1, e2]
    rw [hr] at h1
    exact h1
  | none =>
    have e1 : rdV bs = View.none := by simp [rdV, hr]
    have e2 : rdE bs = 3 := by simp [rdE, hr]
    rw [e1, e2]
    rw [hr] at h1
    intro w s0
    refine (h1 w s0).mono ?_
    rintro e w' ⟨r, H', he, ⟨rfl, rfl⟩, s'⟩
    exact ⟨_, _, he, ⟨_, rfl, rfl⟩, osl_nil s'⟩
theorem wB_byt {v : View} (hf : ∀ c ∈ v.cells, c.Fl) : Byt v.wB := by
  unfold View.wB
  cases hk : v.ok with
  | true => simpa using View.bytes_byt hk hf
  | false => intro i hi; simp at hi
end Go.Proofs.Ytijjjdljdjnbaaa
