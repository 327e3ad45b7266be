/- My own logic of ownership over the model, part A: where several operations may come up next. -/
import Derived.Test.YtijjjdljdjnbaaaSx9
namespace Go.Sx
open Go
set_option linter.unusedVariables false
section
variable {P : Program} {n : Nat} {f : Fr} {E : Env} {H : List HProp} {K : Kont} {ops : Array Oper} {k : Nat} {listed : Array Bool} {F : List Ent} {dd : Nat} {op : Op} {ty : TypeId} {pos : String} {aft : Array Edge}
/-- i comes up next -/
def ABI (P : Program) (n : Nat) (ops : Array Oper) (k : Nat) (listed : Array Bool) (f : Fr) (E : Env) (H : List HProp) (K : Kont) (i : Nat) : Prop :=
  Closed ops listed → i ∈ Region.ready .any ops listed → ∀ w a, Rel n f a.tmps → a.defers = [] → St E H w → OpI P ops i a w fun a' w' => (Ext w w' ∨ Bar ops i) ∧ AnyX P ops (Post n E K) k (listed.setIfInBounds i true) a' w'
/-- each of these may come up next -/
def ABs (P : Program) (n : Nat) (ops : Array Oper) (k : Nat) (listed : Array Bool) (f : Fr) (E : Env) (H : List HProp) (K : Kont) : List Nat → Prop
  | [] => True
  | i :: r => ABI P n ops k listed f E H K i ∧ ABs P n ops k listed f E H K r
theorem ABs.get : ∀ {is : List Nat} {i : Nat}, ABs P n ops k listed f E H K is → i ∈ is → ABI P n ops k listed f E H K i
  | _ :: _, _, h, .head _ => h.1
  | _ :: _, _, h, .tail _ m => ABs.get h.2 m
theorem AB.more (is : List Nat) (hB : (Region.ready .any ops listed == is) = true) (hne : is.isEmpty = false) (h : ABs P n ops k listed f E H K is) : AB P n ops (k + 1) listed f E H K := fun hc w a r d s => by
  have hr : Region.ready .any ops listed = is := by simpa using hB
  refine ⟨fun e => ?_, fun j hj => ?_⟩
  · rw [hr] at e; rw [e] at hne; simp at hne
  · exact ABs.get h (hr ▸ hj) hc hj w a r d s
theorem ABI.mk {q : Bool} {i : Nat} {o : Oper} (hi : ops[i]? = some o) (hq : (q || barB ops i) = true) (hg : o.guard = none) (hd : okD n o.dst = true)
    (h : Stp q P n f E H o fun v H' => AB P n ops k (listed.setIfInBounds i true) (updO f o.dst v) E H' K) : ABI P n ops k listed f E H K i := fun hc hmem w a r d s => by
  unfold OpI
  simp only [hi]
  rw [if_pos (wanted_none hg _)]
  refine (h w a r s).mono ?_
  rintro v w' ⟨x, H', kk, s'⟩
  refine ⟨?_, kk (hc.set hmem) w' _ (r.put hd v) ((put_defers _ _ _).trans d) s'⟩
  cases q with
  | true => exact .inl (x rfl)
  | false => exact .inr (bar_of (by simpa using hq))
theorem ABI.s {q : Bool} {i : Nat} (hi : ops[i]? = some ⟨some dd, op, ty, pos, aft, none⟩) (hq : (q || barB ops i) = true)
    (h : Stp q P n (fr F) E H ⟨some dd, op, ty, pos, aft, none⟩ fun v H' => AB P n ops k (listed.setIfInBounds i true) (fr (.set dd v :: F)) E H' K) (hd : Nat.blt dd n = true) : ABI P n ops k listed (fr F) E H K i := ABI.mk hi hq rfl hd h
theorem ABI.e {q : Bool} {i : Nat} (hi : ops[i]? = some ⟨none, op, ty, pos, aft, none⟩) (hq : (q || barB ops i) = true)
    (h : Stp q P n (fr F) E H ⟨none, op, ty, pos, aft, none⟩ fun _ H' => AB P n ops k (listed.setIfInBounds i true) (fr F) E H' K) : ABI P n ops k listed (fr F) E H K i := ABI.mk hi hq rfl rfl h
end
end Go.Sx
