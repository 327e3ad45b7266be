/- Qj: PatM. -/
import Derived.Test.YtijjjdljdjnbaaaRda
import Derived.Test.YtijjjdljdjnbaaaRdb
import Derived.Test.YtijjjdljdjnbaaaRdc
import Derived.Test.YtijjjdljdjnbaaaRdd
import Derived.Test.YtijjjdljdjnbaaaRde
import Derived.Test.YtijjjdljdjnbaaaRdf
import Derived.Test.YtijjjdljdjnbaaaRdg
import Derived.Test.YtijjjdljdjnbaaaRdh
import Derived.Test.YtijjjdljdjnbaaaRdi
section
/- PatchDiffs: what it computes. -/
namespace Go.Proofs.Ytijjjdljdjnbaaa
set_option maxRecDepth 100000
set_option linter.unusedVariables false
set_option linter.unusedSimpArgs false
open Go.Sx

end Go.Proofs.Ytijjjdljdjnbaaa
end
