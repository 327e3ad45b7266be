/- Qg: PatA, PatB, PatC, PatD, PatE, PatF, PatG, PatH, PatI, PatJ, PatK, PatL. -/
import Derived.Test.YtijjjdljdjnbaaaRsa
import Derived.Test.YtijjjdljdjnbaaaRsb
import Derived.Test.YtijjjdljdjnbaaaRsc
import Derived.Test.YtijjjdljdjnbaaaRsd
import Derived.Test.YtijjjdljdjnbaaaRse
import Derived.Test.YtijjjdljdjnbaaaRsf
section
/- Patches: what a patch is; the cells it begins with; numbers' bytes. -/
namespace Go.Proofs.Ytijjjdljdjnbaaa
set_option maxRecDepth 100000
set_option linter.unusedVariables false
set_option linter.unusedSimpArgs false
open Go.Sx

theorem enc_one (c : Cell) : c.enc.all (·.oneCell') = true := rfl
end Go.Proofs.Ytijjjdljdjnbaaa
end
section
/- Patches: numbers' bytes, and the patch itself. -/
namespace Go.Proofs.Ytijjjdljdjnbaaa
set_option maxRecDepth 100000
set_option linter.unusedVariables false
set_option linter.unusedSimpArgs false
open Go.Sx

end Go.Proofs.Ytijjjdljdjnbaaa
end
section
/- Patches: Diff. -/
namespace Go.Proofs.Ytijjjdljdjnbaaa
set_option maxRecDepth 100000
set_option linter.unusedVariables false
set_option linter.unusedSimpArgs false
open Go.Sx

end Go.Proofs.Ytijjjdljdjnbaaa
end
section
/- Patches: Diff of views that may be. -/
namespace Go.Proofs.Ytijjjdljdjnbaaa
set_option maxRecDepth 100000
set_option linter.unusedVariables false
set_option linter.unusedSimpArgs false
open Go.Sx

end Go.Proofs.Ytijjjdljdjnbaaa
end
section
/- Patches: the runs that bytes have. -/
namespace Go.Proofs.Ytijjjdljdjnbaaa
set_option maxRecDepth 100000
set_option linter.unusedVariables false
set_option linter.unusedSimpArgs false
open Go.Sx

abbrev Run := Int × List Cell
structure RunV where
  k : Int
  a : Option Addr
  m : Nat
  c : Nat
  cells : List Cell
  deriving Inhabited
def RunV.enc (r : RunV) : List Value := [.int .i64 r.k, .slice r.a r.m r.c]
def RunV.own (r : RunV) : HProp := osl 55 4 (.slice r.a r.m r.c) r.cells.length (r.cells.flatMap Cell.enc)
def RunV.val (r : RunV) : Run := (r.k, r.cells)
end Go.Proofs.Ytijjjdljdjnbaaa
end
section
/- Patches: Apply. -/
namespace Go.Proofs.Ytijjjdljdjnbaaa
set_option maxRecDepth 100000
set_option linter.unusedVariables false
set_option linter.unusedSimpArgs false
open Go.Sx

end Go.Proofs.Ytijjjdljdjnbaaa
end
section
/- Patches: Apply, what it computes. -/
namespace Go.Proofs.Ytijjjdljdjnbaaa
set_option maxRecDepth 100000
set_option linter.unusedVariables false
set_option linter.unusedSimpArgs false
open Go.Sx

end Go.Proofs.Ytijjjdljdjnbaaa
end
section
/- Patches: there and back; how many runs and bytes. -/
namespace Go.Proofs.Ytijjjdljdjnbaaa
set_option maxRecDepth 100000
set_option linter.unusedVariables false
set_option linter.unusedSimpArgs false
open Go.Sx

end Go.Proofs.Ytijjjdljdjnbaaa
end
section
/- Patches: the laws. -/
namespace Go.Proofs.Ytijjjdljdjnbaaa
set_option maxRecDepth 100000
set_option linter.unusedVariables false
set_option linter.unusedSimpArgs false
open Go.Sx

theorem ok_480 {b : View} (hb : b.ok = true) : 1 ≤ b.cells.length ∧ b.cells.length ≤ 480 := by
  have fb := (View.ok_fits hb).1
  have := mul_bound fb.1
  have := fb.2.2.2.2.2
  omega
end Go.Proofs.Ytijjjdljdjnbaaa
end
section
/- Patches: the fixed calls of longlinelaw21.alive. -/
namespace Go.Proofs.Ytijjjdljdjnbaaa
set_option maxRecDepth 100000
set_option linter.unusedVariables false
set_option linter.unusedSimpArgs false
open Go.Sx

theorem first_fl : ∀ c ∈ View.first.cells, c.Fl := by
  intro c hc
  have : c = ⟨32, 0, 0, 0⟩ := by simpa [View.first] using hc
  rw [this]; exact ⟨by decide, by decide⟩
end Go.Proofs.Ytijjjdljdjnbaaa
end
section
/- PatchFew: what it computes. -/
namespace Go.Proofs.Ytijjjdljdjnbaaa
set_option maxRecDepth 100000
set_option linter.unusedVariables false
set_option linter.unusedSimpArgs false
open Go.Sx

end Go.Proofs.Ytijjjdljdjnbaaa
end
section
/- PatchMakes: what it computes. -/
namespace Go.Proofs.Ytijjjdljdjnbaaa
set_option maxRecDepth 100000
set_option linter.unusedVariables false
set_option linter.unusedSimpArgs false
open Go.Sx

end Go.Proofs.Ytijjjdljdjnbaaa
end
