/- A listed variable of two numbers. -/
import Derived.Test.YtibnojoffhlekaaGreatDoorGg
set_option linter.all false
namespace Go.Gv
open Go
variable {P:Program} {W:World}
end Go.Gv
