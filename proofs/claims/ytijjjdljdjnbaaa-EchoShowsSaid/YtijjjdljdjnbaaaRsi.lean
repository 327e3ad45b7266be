/- Qn: CellsW, OpenC, OpenD. -/
import Derived.Test.YtijjjdljdjnbaaaRsa
import Derived.Test.YtijjjdljdjnbaaaRsb
import Derived.Test.YtijjjdljdjnbaaaRsc
import Derived.Test.YtijjjdljdjnbaaaRsd
import Derived.Test.YtijjjdljdjnbaaaRse
import Derived.Test.YtijjjdljdjnbaaaRsf
import Derived.Test.YtijjjdljdjnbaaaRsg
import Derived.Test.YtijjjdljdjnbaaaRsh
section
/- ViewCells: what it computes. -/
namespace Go.Proofs.Ytijjjdljdjnbaaa
set_option maxRecDepth 100000
set_option linter.unusedVariables false
set_option linter.unusedSimpArgs false
open Go.Sx

end Go.Proofs.Ytijjjdljdjnbaaa
end
section
/- A cell as an argument. -/
namespace Go.Proofs.Ytijjjdljdjnbaaa
set_option maxRecDepth 100000
set_option linter.unusedVariables false
set_option linter.unusedSimpArgs false
open Go.Sx Go.ChangeShapes Go.RowKit Go.WideShapes

end Go.Proofs.Ytijjjdljdjnbaaa
end
section
/- Views and bytes as arguments, for the document's walk. -/
namespace Go.Proofs.Ytijjjdljdjnbaaa
open Go.Sx

theorem Cell.In32.Cols {c : Cell} (h : c.In32) : c.Cols := ⟨h.1.2.2.1, h.1.2.2.2.1, h.1.2.2.2.2.1, h.1.2.2.2.2.2⟩
end Go.Proofs.Ytijjjdljdjnbaaa
end
