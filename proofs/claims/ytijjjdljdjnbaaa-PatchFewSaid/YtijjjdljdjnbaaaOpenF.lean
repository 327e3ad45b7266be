/- Views as arguments, for PatchFew. -/
import Derived.Test.YtijjjdljdjnbaaaOpenB
import Derived.Test.YtijjjdljdjnbaaaPatK
