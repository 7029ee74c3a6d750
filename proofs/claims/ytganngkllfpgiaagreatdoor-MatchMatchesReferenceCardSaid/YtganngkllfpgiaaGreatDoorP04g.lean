/- The plain law of similarities of values. -/
import Derived.Test.YtganngkllfpgiaaGreatDoorP04f
import Derived.Test.YtganngkllfpgiaaGreatDoorC04e
set_option linter.all false
namespace Go.Gv
open Go

end Go.Gv
