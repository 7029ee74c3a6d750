/- Names of types. -/
import Derived.Test.YtklcfpomppgblaaGreatDoorH
set_option linter.all false
namespace Go.Gv
open Go Go.Proofs Go.Proofs.YtklcfpomppgblaaGreatDoor
set_option maxRecDepth 100000
set_option maxHeartbeats 4000000
@[reducible] def tInt : Ty := .int .i64
@[reducible] def tU64 : Ty := .int .u64
@[reducible] def tBy : Ty := .int .u8
end Go.Gv
