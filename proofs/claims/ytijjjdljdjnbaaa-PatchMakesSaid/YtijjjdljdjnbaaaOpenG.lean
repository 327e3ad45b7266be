/- Views as arguments, for PatchMakes. -/
import Derived.Test.YtijjjdljdjnbaaaOpenB
import Derived.Test.YtijjjdljdjnbaaaPatL
