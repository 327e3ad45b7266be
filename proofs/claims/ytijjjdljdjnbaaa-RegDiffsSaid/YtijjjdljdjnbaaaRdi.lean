/- Qi: RefO, RefP, RefQ. -/
import Derived.Test.YtijjjdljdjnbaaaRda
import Derived.Test.YtijjjdljdjnbaaaRdb
import Derived.Test.YtijjjdljdjnbaaaRdc
import Derived.Test.YtijjjdljdjnbaaaRdd
import Derived.Test.YtijjjdljdjnbaaaRde
import Derived.Test.YtijjjdljdjnbaaaRdf
import Derived.Test.YtijjjdljdjnbaaaRdg
import Derived.Test.YtijjjdljdjnbaaaRdh
section
/- The document's patches: Runs. -/
namespace Go.Proofs.Ytijjjdljdjnbaaa
set_option maxRecDepth 100000
set_option linter.unusedVariables false
set_option linter.unusedSimpArgs false
open Go.Sx

end Go.Proofs.Ytijjjdljdjnbaaa
end
section
/- The document's patches: what is read, in other words. -/
namespace Go.Proofs.Ytijjjdljdjnbaaa
set_option maxRecDepth 100000
set_option linter.unusedVariables false
set_option linter.unusedSimpArgs false
open Go.Sx

end Go.Proofs.Ytijjjdljdjnbaaa
end
section
/- The document's patches: Apply. -/
namespace Go.Proofs.Ytijjjdljdjnbaaa
set_option maxRecDepth 100000
set_option linter.unusedVariables false
set_option linter.unusedSimpArgs false
open Go.Sx

end Go.Proofs.Ytijjjdljdjnbaaa
end
