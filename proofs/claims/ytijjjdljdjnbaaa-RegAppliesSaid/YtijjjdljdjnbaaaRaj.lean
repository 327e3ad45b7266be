/- Qj: PatM. -/
import Derived.Test.YtijjjdljdjnbaaaRaa
import Derived.Test.YtijjjdljdjnbaaaRab
import Derived.Test.YtijjjdljdjnbaaaRac
import Derived.Test.YtijjjdljdjnbaaaRad
import Derived.Test.YtijjjdljdjnbaaaRae
import Derived.Test.YtijjjdljdjnbaaaRaf
import Derived.Test.YtijjjdljdjnbaaaRag
import Derived.Test.YtijjjdljdjnbaaaRah
import Derived.Test.YtijjjdljdjnbaaaRai
section
/- PatchDiffs: what it computes. -/
namespace Go.Proofs.Ytijjjdljdjnbaaa
set_option maxRecDepth 100000
set_option linter.unusedVariables false
set_option linter.unusedSimpArgs false
open Go.Sx

end Go.Proofs.Ytijjjdljdjnbaaa
end
