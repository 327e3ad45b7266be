/- Views and bytes as arguments, for the document's walk. -/
import Derived.Test.YtijjjdljdjnbaaaOpenB
import Derived.Test.YtijjjdljdjnbaaaRefL
namespace Go.Proofs.Ytijjjdljdjnbaaa
open Go.Sx

theorem Cell.In32.Cols {c : Cell} (h : c.In32) : c.Cols := ⟨h.1.2.2.1, h.1.2.2.2.1, h.1.2.2.2.2.1, h.1.2.2.2.2.2⟩
end Go.Proofs.Ytijjjdljdjnbaaa
