/- Names of types. -/
import Derived.Test.YtganngkllfpgiaaGreatDoorH
set_option linter.all false
namespace Go.Gv
open Go Go.Proofs Go.Proofs.YtganngkllfpgiaaGreatDoor
@[reducible] def tInt : Ty := .int .i64
@[reducible] def tU64 : Ty := .int .u64
@[reducible] def tBy : Ty := .int .u8
end Go.Gv
