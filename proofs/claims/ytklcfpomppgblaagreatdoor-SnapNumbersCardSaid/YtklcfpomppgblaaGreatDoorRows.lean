/-
  NARROWER THAN 'FOR EVERY INPUT', by the rows' own cells (each row's printed sentence says how): SnapForever: calm, laid · SnapCollects: calm, laid · SnapNumbers: laid · SessionCancelled: calm, laid · SessionConflicts: calm, laid · SessionSerial: calm, laid · SessionClosed: laid · SessionInForce: calm, laid.
  DERIVED. THE GIVEN ROWS OF THIS SEAT. 8 by the template 'for every input the law returns true; each argument reads behind the call as it read before'; 0 by the template 'total and deterministic' (their statements: YtklcfpomppgblaaGreatDoorTotals.lean).
  GIVEN WITH THE SEED: the statements are not yours to turn. If you find one false, say at which input.
  Laid BY PROGRAM, IN A SANDBOX (cutbox-rows.mjs): the forced cells as the released guide's own fill.sh prints them over the translation 5ef903da811d5985… (all of the seat's roots in one cut). By AI agents, Wed Nov 11 2026. No macro, syntax, notation, axiom, sorry.
-/
import Derived.Test.YtklcfpomppgblaaGreatDoorChecked
import GoSem.Claim
import GoSem.ClaimJoined
import GoSem.ClaimMapViews
import Derived.JoinedTies
import Derived.KernelRfl
namespace Go.Proofs.YtklcfpomppgblaaGreatDoor
/- THE CELL 'sum', in the pinned program and in every row, IS THE sha256 OF THE DUMP (.gsa) THAT YtklcfpomppgblaaGreatDoorProg.lean LOADS. Nothing in Lean hashes anything: it is a label: what it is worth is what the hold of that sum in a sandbox is worth. -/
noncomputable def Tryz.pinned : Pinned := { name := "ytklcfpomppgblaagreatdoor", sum := "5ef903da811d5985159f6e55cc09815c3606c3a5b00a6a249f3960a261d6f0a0", checked := Tryz.checked }
namespace Rows
def none {H : Type} : Left H := { results := [], args := [] }

/- WHAT THE LISTED PACKAGE-LEVEL VARIABLES READ AS WHEN THE CALL BEGINS. Each datum BY PROGRAM (the guide's laid-datum.mjs) off the statement by which the dump's own 'gosem.cut.vars' lays the variable. In a bare row this is a premise. The card (YtklcfpomppgblaaGreatDoorCards.lean) ties it to the program's text. -/
def laid_math_bits_deBruijn32tab {H : Type} : DataW H := .agg [.lit (.int .u8 0), .lit (.int .u8 1), .lit (.int .u8 28), .lit (.int .u8 2), .lit (.int .u8 29), .lit (.int .u8 14), .lit (.int .u8 24), .lit (.int .u8 3), .lit (.int .u8 30), .lit (.int .u8 22), .lit (.int .u8 20), .lit (.int .u8 15), .lit (.int .u8 25), .lit (.int .u8 17), .lit (.int .u8 4), .lit (.int .u8 8), .lit (.int .u8 31), .lit (.int .u8 27), .lit (.int .u8 13), .lit (.int .u8 23), .lit (.int .u8 21), .lit (.int .u8 19), .lit (.int .u8 16), .lit (.int .u8 7), .lit (.int .u8 26), .lit (.int .u8 12), .lit (.int .u8 18), .lit (.int .u8 6), .lit (.int .u8 11), .lit (.int .u8 5), .lit (.int .u8 10), .lit (.int .u8 9)]
def laid_math_bits_deBruijn64tab {H : Type} : DataW H := .agg [.lit (.int .u8 0), .lit (.int .u8 1), .lit (.int .u8 56), .lit (.int .u8 2), .lit (.int .u8 57), .lit (.int .u8 49), .lit (.int .u8 28), .lit (.int .u8 3), .lit (.int .u8 61), .lit (.int .u8 58), .lit (.int .u8 42), .lit (.int .u8 50), .lit (.int .u8 38), .lit (.int .u8 29), .lit (.int .u8 17), .lit (.int .u8 4), .lit (.int .u8 62), .lit (.int .u8 47), .lit (.int .u8 59), .lit (.int .u8 36), .lit (.int .u8 45), .lit (.int .u8 43), .lit (.int .u8 51), .lit (.int .u8 22), .lit (.int .u8 53), .lit (.int .u8 39), .lit (.int .u8 33), .lit (.int .u8 30), .lit (.int .u8 24), .lit (.int .u8 18), .lit (.int .u8 12), .lit (.int .u8 5), .lit (.int .u8 63), .lit (.int .u8 55), .lit (.int .u8 48), .lit (.int .u8 27), .lit (.int .u8 60), .lit (.int .u8 41), .lit (.int .u8 37), .lit (.int .u8 16), .lit (.int .u8 46), .lit (.int .u8 35), .lit (.int .u8 44), .lit (.int .u8 21), .lit (.int .u8 52), .lit (.int .u8 32), .lit (.int .u8 23), .lit (.int .u8 11), .lit (.int .u8 54), .lit (.int .u8 26), .lit (.int .u8 40), .lit (.int .u8 15), .lit (.int .u8 34), .lit (.int .u8 20), .lit (.int .u8 31), .lit (.int .u8 10), .lit (.int .u8 25), .lit (.int .u8 14), .lit (.int .u8 19), .lit (.int .u8 9), .lit (.int .u8 13), .lit (.int .u8 8), .lit (.int .u8 7), .lit (.int .u8 6)]
def laid_internal_strconv_uint64pow10 {H : Type} : DataW H := .agg [.lit (.int .u64 1), .lit (.int .u64 10), .lit (.int .u64 100), .lit (.int .u64 1000), .lit (.int .u64 10000), .lit (.int .u64 100000), .lit (.int .u64 1000000), .lit (.int .u64 10000000), .lit (.int .u64 100000000), .lit (.int .u64 1000000000), .lit (.int .u64 10000000000), .lit (.int .u64 100000000000), .lit (.int .u64 1000000000000), .lit (.int .u64 10000000000000), .lit (.int .u64 100000000000000), .lit (.int .u64 1000000000000000), .lit (.int .u64 10000000000000000), .lit (.int .u64 100000000000000000), .lit (.int .u64 1000000000000000000), .lit (.int .u64 10000000000000000000)]
def laid_cleanse_ledger_kinds {H : Type} : DataW H := .agg [.lit (.string []), .lit (.string [100, 101, 108, 105, 118, 101, 114]), .lit (.string [100, 101, 99, 105, 100, 101]), .lit (.string [112, 114, 111, 103, 114, 97, 109]), .lit (.string [99, 104, 97, 110, 103, 101]), .lit (.string [117, 110, 100, 111]), .lit (.string [100, 105, 115, 111, 119, 110]), .lit (.string [101, 114, 97, 115, 101])]
def laid_cleanse_ledger_decisions {H : Type} : DataW H := .agg [.lit (.string []), .lit (.string [115, 97, 109, 101]), .lit (.string [111, 116, 104, 101, 114]), .lit (.string [111, 112, 101, 110])]

/-- 'cleanselaw48.SnapForever': WHATEVER THE INPUT: true; the input reads as it did. -/
def snapForeverSpec : ChangeSpec := { name := "snapForever", fn := fun _ => fun
  | [d1, d2] => { results := [.lit (.bool true)], args := [d1, d2] }
  | _ => none }
def snapForeverRow : OpenClaim := { program := "ytklcfpomppgblaagreatdoor", sum := "5ef903da811d5985159f6e55cc09815c3606c3a5b00a6a249f3960a261d6f0a0", func := "cleanse/cleanselaw48.SnapForever", spec := "snapForever", inPlace := ["internal/bytealg.IndexByteString", "sync/atomic.LoadUint32", "(*internal/sync.Mutex).Lock", "internal/race.Disable", "sync/atomic.CompareAndSwapInt32", "internal/race.Enable", "internal/race.Acquire", "(*internal/sync.Mutex).lockSlow", "internal/sync.runtime_canSpin", "internal/sync.runtime_doSpin", "internal/sync.throw", "internal/sync.runtime_nanotime", "internal/sync.runtime_SemacquireMutex", "sync/atomic.AddInt32", "(*internal/sync.Mutex).Unlock", "internal/race.ReleaseMerge", "(*internal/sync.Mutex).unlockSlow", "internal/sync.fatal", "internal/sync.runtime_Semrelease", "sync/atomic.StoreUint32", "internal/abi.NoEscape", "internal/bytealg.MakeNoZero"], unfollowed := true, recurses := true, named := ["cleanse/ledger.kinds", "cleanse/ledger.decisions", "cleanse/feed.operations", "internal/strconv.uint64pow10", "math/bits.deBruijn32tab", "math/bits.deBruijn64tab"], plainKeys := false, apart := false, calm := true, outside := [.timePasses], laid := [("math/bits.deBruijn32tab", laid_math_bits_deBruijn32tab), ("math/bits.deBruijn64tab", laid_math_bits_deBruijn64tab), ("internal/strconv.uint64pow10", laid_internal_strconv_uint64pow10), ("cleanse/ledger.kinds", laid_cleanse_ledger_kinds), ("cleanse/ledger.decisions", laid_cleanse_ledger_decisions)] }
def SnapForeverSaid : Prop := snapForeverRow.holds Tryz.pinned (OpenSpec.ofChange snapForeverSpec)

/-- ITS FALSE NEIGHBOUR: 'it returns false'. Refute it at one input. -/
def snapForeverWrong : ChangeSpec := { name := "snapForever", fn := fun _ => fun
  | [d1, d2] => { results := [.lit (.bool false)], args := [d1, d2] }
  | _ => none }
def SnapForeverWrongFalsely : Prop := snapForeverRow.holds Tryz.pinned (OpenSpec.ofChange snapForeverWrong)

/-- 'cleanselaw48.SnapCollects': WHATEVER THE INPUT: true; the input reads as it did. -/
def snapCollectsSpec : ChangeSpec := { name := "snapCollects", fn := fun _ => fun
  | [d] => { results := [.lit (.bool true)], args := [d] }
  | _ => none }
def snapCollectsRow : OpenClaim := { program := "ytklcfpomppgblaagreatdoor", sum := "5ef903da811d5985159f6e55cc09815c3606c3a5b00a6a249f3960a261d6f0a0", func := "cleanse/cleanselaw48.SnapCollects", spec := "snapCollects", inPlace := ["internal/bytealg.IndexByteString", "sync/atomic.LoadUint32", "(*internal/sync.Mutex).Lock", "internal/race.Disable", "sync/atomic.CompareAndSwapInt32", "internal/race.Enable", "internal/race.Acquire", "(*internal/sync.Mutex).lockSlow", "internal/sync.runtime_canSpin", "internal/sync.runtime_doSpin", "internal/sync.throw", "internal/sync.runtime_nanotime", "internal/sync.runtime_SemacquireMutex", "sync/atomic.AddInt32", "(*internal/sync.Mutex).Unlock", "internal/race.ReleaseMerge", "(*internal/sync.Mutex).unlockSlow", "internal/sync.fatal", "internal/sync.runtime_Semrelease", "sync/atomic.StoreUint32", "internal/abi.NoEscape", "internal/bytealg.MakeNoZero"], unfollowed := true, recurses := true, named := ["cleanse/ledger.kinds", "cleanse/ledger.decisions", "cleanse/feed.operations", "internal/strconv.uint64pow10", "math/bits.deBruijn32tab", "math/bits.deBruijn64tab"], plainKeys := false, apart := false, calm := true, outside := [.timePasses], laid := [("math/bits.deBruijn32tab", laid_math_bits_deBruijn32tab), ("math/bits.deBruijn64tab", laid_math_bits_deBruijn64tab), ("internal/strconv.uint64pow10", laid_internal_strconv_uint64pow10), ("cleanse/ledger.kinds", laid_cleanse_ledger_kinds), ("cleanse/ledger.decisions", laid_cleanse_ledger_decisions)] }
def SnapCollectsSaid : Prop := snapCollectsRow.holds Tryz.pinned (OpenSpec.ofChange snapCollectsSpec)

/-- ITS FALSE NEIGHBOUR: 'it returns false'. Refute it at one input. -/
def snapCollectsWrong : ChangeSpec := { name := "snapCollects", fn := fun _ => fun
  | [d] => { results := [.lit (.bool false)], args := [d] }
  | _ => none }
def SnapCollectsWrongFalsely : Prop := snapCollectsRow.holds Tryz.pinned (OpenSpec.ofChange snapCollectsWrong)

/-- 'cleanselaw48.SnapNumbers': WHATEVER THE INPUT: true; the input reads as it did. -/
def snapNumbersSpec : ChangeSpec := { name := "snapNumbers", fn := fun _ => fun
  | [d] => { results := [.lit (.bool true)], args := [d] }
  | _ => none }
def snapNumbersRow : OpenClaim := { program := "ytklcfpomppgblaagreatdoor", sum := "5ef903da811d5985159f6e55cc09815c3606c3a5b00a6a249f3960a261d6f0a0", func := "cleanse/cleanselaw48.SnapNumbers", spec := "snapNumbers", inPlace := ["internal/bytealg.IndexByteString", "sync/atomic.LoadUint32", "(*internal/sync.Mutex).Lock", "internal/race.Disable", "sync/atomic.CompareAndSwapInt32", "internal/race.Enable", "internal/race.Acquire", "(*internal/sync.Mutex).lockSlow", "internal/sync.runtime_canSpin", "internal/sync.runtime_doSpin", "internal/sync.throw", "internal/sync.runtime_nanotime", "internal/sync.runtime_SemacquireMutex", "sync/atomic.AddInt32", "(*internal/sync.Mutex).Unlock", "internal/race.ReleaseMerge", "(*internal/sync.Mutex).unlockSlow", "internal/sync.fatal", "internal/sync.runtime_Semrelease", "sync/atomic.StoreUint32", "internal/abi.NoEscape", "internal/bytealg.MakeNoZero"], unfollowed := true, recurses := true, named := ["cleanse/ledger.kinds", "cleanse/ledger.decisions", "cleanse/feed.operations", "internal/strconv.uint64pow10", "math/bits.deBruijn32tab", "math/bits.deBruijn64tab"], plainKeys := false, apart := false, laid := [("math/bits.deBruijn32tab", laid_math_bits_deBruijn32tab), ("math/bits.deBruijn64tab", laid_math_bits_deBruijn64tab), ("internal/strconv.uint64pow10", laid_internal_strconv_uint64pow10), ("cleanse/ledger.kinds", laid_cleanse_ledger_kinds), ("cleanse/ledger.decisions", laid_cleanse_ledger_decisions)] }
def SnapNumbersSaid : Prop := snapNumbersRow.holds Tryz.pinned (OpenSpec.ofChange snapNumbersSpec)

/-- ITS FALSE NEIGHBOUR: 'it returns false'. Refute it at one input. -/
def snapNumbersWrong : ChangeSpec := { name := "snapNumbers", fn := fun _ => fun
  | [d] => { results := [.lit (.bool false)], args := [d] }
  | _ => none }
def SnapNumbersWrongFalsely : Prop := snapNumbersRow.holds Tryz.pinned (OpenSpec.ofChange snapNumbersWrong)

/-- 'cleanselaw49.SessionCancelled': WHATEVER THE INPUT: true; the input reads as it did. -/
def sessionCancelledSpec : ChangeSpec := { name := "sessionCancelled", fn := fun _ => fun
  | [d1, d2] => { results := [.lit (.bool true)], args := [d1, d2] }
  | _ => none }
def sessionCancelledRow : OpenClaim := { program := "ytklcfpomppgblaagreatdoor", sum := "5ef903da811d5985159f6e55cc09815c3606c3a5b00a6a249f3960a261d6f0a0", func := "cleanse/cleanselaw49.SessionCancelled", spec := "sessionCancelled", inPlace := ["internal/bytealg.IndexByteString", "sync/atomic.LoadUint32", "(*internal/sync.Mutex).Lock", "internal/race.Disable", "sync/atomic.CompareAndSwapInt32", "internal/race.Enable", "internal/race.Acquire", "(*internal/sync.Mutex).lockSlow", "internal/sync.runtime_canSpin", "internal/sync.runtime_doSpin", "internal/sync.throw", "internal/sync.runtime_nanotime", "internal/sync.runtime_SemacquireMutex", "sync/atomic.AddInt32", "(*internal/sync.Mutex).Unlock", "internal/race.ReleaseMerge", "(*internal/sync.Mutex).unlockSlow", "internal/sync.fatal", "internal/sync.runtime_Semrelease", "sync/atomic.StoreUint32", "internal/abi.NoEscape", "internal/bytealg.MakeNoZero"], unfollowed := true, recurses := true, named := ["cleanse/ledger.kinds", "cleanse/ledger.decisions", "cleanse/feed.operations", "internal/strconv.uint64pow10", "math/bits.deBruijn32tab", "math/bits.deBruijn64tab"], plainKeys := false, apart := false, calm := true, outside := [.timePasses], laid := [("math/bits.deBruijn32tab", laid_math_bits_deBruijn32tab), ("math/bits.deBruijn64tab", laid_math_bits_deBruijn64tab), ("internal/strconv.uint64pow10", laid_internal_strconv_uint64pow10), ("cleanse/ledger.kinds", laid_cleanse_ledger_kinds), ("cleanse/ledger.decisions", laid_cleanse_ledger_decisions)] }
def SessionCancelledSaid : Prop := sessionCancelledRow.holds Tryz.pinned (OpenSpec.ofChange sessionCancelledSpec)

/-- ITS FALSE NEIGHBOUR: 'it returns false'. Refute it at one input. -/
def sessionCancelledWrong : ChangeSpec := { name := "sessionCancelled", fn := fun _ => fun
  | [d1, d2] => { results := [.lit (.bool false)], args := [d1, d2] }
  | _ => none }
def SessionCancelledWrongFalsely : Prop := sessionCancelledRow.holds Tryz.pinned (OpenSpec.ofChange sessionCancelledWrong)

/-- 'cleanselaw49.SessionConflicts': WHATEVER THE INPUT: true; the input reads as it did. -/
def sessionConflictsSpec : ChangeSpec := { name := "sessionConflicts", fn := fun _ => fun
  | [d1, d2, d3, d4, d5, d6, d7] => { results := [.lit (.bool true)], args := [d1, d2, d3, d4, d5, d6, d7] }
  | _ => none }
def sessionConflictsRow : OpenClaim := { program := "ytklcfpomppgblaagreatdoor", sum := "5ef903da811d5985159f6e55cc09815c3606c3a5b00a6a249f3960a261d6f0a0", func := "cleanse/cleanselaw49.SessionConflicts", spec := "sessionConflicts", inPlace := ["internal/bytealg.IndexByteString", "sync/atomic.LoadUint32", "(*internal/sync.Mutex).Lock", "internal/race.Disable", "sync/atomic.CompareAndSwapInt32", "internal/race.Enable", "internal/race.Acquire", "(*internal/sync.Mutex).lockSlow", "internal/sync.runtime_canSpin", "internal/sync.runtime_doSpin", "internal/sync.throw", "internal/sync.runtime_nanotime", "internal/sync.runtime_SemacquireMutex", "sync/atomic.AddInt32", "(*internal/sync.Mutex).Unlock", "internal/race.ReleaseMerge", "(*internal/sync.Mutex).unlockSlow", "internal/sync.fatal", "internal/sync.runtime_Semrelease", "sync/atomic.StoreUint32", "internal/abi.NoEscape", "internal/bytealg.MakeNoZero"], unfollowed := true, recurses := true, named := ["cleanse/ledger.kinds", "cleanse/ledger.decisions", "cleanse/feed.operations", "internal/strconv.uint64pow10", "math/bits.deBruijn32tab", "math/bits.deBruijn64tab"], plainKeys := false, apart := false, calm := true, outside := [.timePasses], laid := [("math/bits.deBruijn32tab", laid_math_bits_deBruijn32tab), ("math/bits.deBruijn64tab", laid_math_bits_deBruijn64tab), ("internal/strconv.uint64pow10", laid_internal_strconv_uint64pow10), ("cleanse/ledger.kinds", laid_cleanse_ledger_kinds), ("cleanse/ledger.decisions", laid_cleanse_ledger_decisions)] }
def SessionConflictsSaid : Prop := sessionConflictsRow.holds Tryz.pinned (OpenSpec.ofChange sessionConflictsSpec)

/-- ITS FALSE NEIGHBOUR: 'it returns false'. Refute it at one input. -/
def sessionConflictsWrong : ChangeSpec := { name := "sessionConflicts", fn := fun _ => fun
  | [d1, d2, d3, d4, d5, d6, d7] => { results := [.lit (.bool false)], args := [d1, d2, d3, d4, d5, d6, d7] }
  | _ => none }
def SessionConflictsWrongFalsely : Prop := sessionConflictsRow.holds Tryz.pinned (OpenSpec.ofChange sessionConflictsWrong)

/-- 'cleanselaw49.SessionSerial': WHATEVER THE INPUT: true; the input reads as it did. -/
def sessionSerialSpec : ChangeSpec := { name := "sessionSerial", fn := fun _ => fun
  | [d1, d2] => { results := [.lit (.bool true)], args := [d1, d2] }
  | _ => none }
def sessionSerialRow : OpenClaim := { program := "ytklcfpomppgblaagreatdoor", sum := "5ef903da811d5985159f6e55cc09815c3606c3a5b00a6a249f3960a261d6f0a0", func := "cleanse/cleanselaw49.SessionSerial", spec := "sessionSerial", inPlace := ["internal/bytealg.IndexByteString", "sync/atomic.LoadUint32", "(*internal/sync.Mutex).Lock", "internal/race.Disable", "sync/atomic.CompareAndSwapInt32", "internal/race.Enable", "internal/race.Acquire", "(*internal/sync.Mutex).lockSlow", "internal/sync.runtime_canSpin", "internal/sync.runtime_doSpin", "internal/sync.throw", "internal/sync.runtime_nanotime", "internal/sync.runtime_SemacquireMutex", "sync/atomic.AddInt32", "(*internal/sync.Mutex).Unlock", "internal/race.ReleaseMerge", "(*internal/sync.Mutex).unlockSlow", "internal/sync.fatal", "internal/sync.runtime_Semrelease", "sync/atomic.StoreUint32", "internal/abi.NoEscape", "internal/bytealg.MakeNoZero"], unfollowed := true, recurses := true, named := ["cleanse/ledger.kinds", "cleanse/ledger.decisions", "cleanse/feed.operations", "internal/strconv.uint64pow10", "math/bits.deBruijn32tab", "math/bits.deBruijn64tab"], plainKeys := false, apart := false, calm := true, outside := [.timePasses], laid := [("math/bits.deBruijn32tab", laid_math_bits_deBruijn32tab), ("math/bits.deBruijn64tab", laid_math_bits_deBruijn64tab), ("internal/strconv.uint64pow10", laid_internal_strconv_uint64pow10), ("cleanse/ledger.kinds", laid_cleanse_ledger_kinds), ("cleanse/ledger.decisions", laid_cleanse_ledger_decisions)] }
def SessionSerialSaid : Prop := sessionSerialRow.holds Tryz.pinned (OpenSpec.ofChange sessionSerialSpec)

/-- ITS FALSE NEIGHBOUR: 'it returns false'. Refute it at one input. -/
def sessionSerialWrong : ChangeSpec := { name := "sessionSerial", fn := fun _ => fun
  | [d1, d2] => { results := [.lit (.bool false)], args := [d1, d2] }
  | _ => none }
def SessionSerialWrongFalsely : Prop := sessionSerialRow.holds Tryz.pinned (OpenSpec.ofChange sessionSerialWrong)

/-- 'cleanselaw49.SessionClosed': WHATEVER THE INPUT: true; the input reads as it did. -/
def sessionClosedSpec : ChangeSpec := { name := "sessionClosed", fn := fun _ => fun
  | [d1, d2, d3, d4, d5] => { results := [.lit (.bool true)], args := [d1, d2, d3, d4, d5] }
  | _ => none }
def sessionClosedRow : OpenClaim := { program := "ytklcfpomppgblaagreatdoor", sum := "5ef903da811d5985159f6e55cc09815c3606c3a5b00a6a249f3960a261d6f0a0", func := "cleanse/cleanselaw49.SessionClosed", spec := "sessionClosed", inPlace := ["internal/bytealg.IndexByteString", "sync/atomic.LoadUint32", "(*internal/sync.Mutex).Lock", "internal/race.Disable", "sync/atomic.CompareAndSwapInt32", "internal/race.Enable", "internal/race.Acquire", "(*internal/sync.Mutex).lockSlow", "internal/sync.runtime_canSpin", "internal/sync.runtime_doSpin", "internal/sync.throw", "internal/sync.runtime_nanotime", "internal/sync.runtime_SemacquireMutex", "sync/atomic.AddInt32", "(*internal/sync.Mutex).Unlock", "internal/race.ReleaseMerge", "(*internal/sync.Mutex).unlockSlow", "internal/sync.fatal", "internal/sync.runtime_Semrelease", "sync/atomic.StoreUint32", "internal/abi.NoEscape", "internal/bytealg.MakeNoZero"], unfollowed := true, recurses := true, named := ["cleanse/ledger.kinds", "cleanse/ledger.decisions", "cleanse/feed.operations", "internal/strconv.uint64pow10", "math/bits.deBruijn32tab", "math/bits.deBruijn64tab"], plainKeys := false, apart := false, laid := [("math/bits.deBruijn32tab", laid_math_bits_deBruijn32tab), ("math/bits.deBruijn64tab", laid_math_bits_deBruijn64tab), ("internal/strconv.uint64pow10", laid_internal_strconv_uint64pow10), ("cleanse/ledger.kinds", laid_cleanse_ledger_kinds), ("cleanse/ledger.decisions", laid_cleanse_ledger_decisions)] }
def SessionClosedSaid : Prop := sessionClosedRow.holds Tryz.pinned (OpenSpec.ofChange sessionClosedSpec)

/-- ITS FALSE NEIGHBOUR: 'it returns false'. Refute it at one input. -/
def sessionClosedWrong : ChangeSpec := { name := "sessionClosed", fn := fun _ => fun
  | [d1, d2, d3, d4, d5] => { results := [.lit (.bool false)], args := [d1, d2, d3, d4, d5] }
  | _ => none }
def SessionClosedWrongFalsely : Prop := sessionClosedRow.holds Tryz.pinned (OpenSpec.ofChange sessionClosedWrong)

/-- 'cleanselaw49.SessionInForce': WHATEVER THE INPUT: true; the input reads as it did. -/
def sessionInForceSpec : ChangeSpec := { name := "sessionInForce", fn := fun _ => fun
  | [d1, d2] => { results := [.lit (.bool true)], args := [d1, d2] }
  | _ => none }
def sessionInForceRow : OpenClaim := { program := "ytklcfpomppgblaagreatdoor", sum := "5ef903da811d5985159f6e55cc09815c3606c3a5b00a6a249f3960a261d6f0a0", func := "cleanse/cleanselaw49.SessionInForce", spec := "sessionInForce", inPlace := ["internal/bytealg.IndexByteString", "sync/atomic.LoadUint32", "(*internal/sync.Mutex).Lock", "internal/race.Disable", "sync/atomic.CompareAndSwapInt32", "internal/race.Enable", "internal/race.Acquire", "(*internal/sync.Mutex).lockSlow", "internal/sync.runtime_canSpin", "internal/sync.runtime_doSpin", "internal/sync.throw", "internal/sync.runtime_nanotime", "internal/sync.runtime_SemacquireMutex", "sync/atomic.AddInt32", "(*internal/sync.Mutex).Unlock", "internal/race.ReleaseMerge", "(*internal/sync.Mutex).unlockSlow", "internal/sync.fatal", "internal/sync.runtime_Semrelease", "sync/atomic.StoreUint32", "internal/abi.NoEscape", "internal/bytealg.MakeNoZero"], unfollowed := true, recurses := true, named := ["cleanse/ledger.kinds", "cleanse/ledger.decisions", "cleanse/feed.operations", "internal/strconv.uint64pow10", "math/bits.deBruijn32tab", "math/bits.deBruijn64tab"], plainKeys := false, apart := false, calm := true, outside := [.timePasses], laid := [("math/bits.deBruijn32tab", laid_math_bits_deBruijn32tab), ("math/bits.deBruijn64tab", laid_math_bits_deBruijn64tab), ("internal/strconv.uint64pow10", laid_internal_strconv_uint64pow10), ("cleanse/ledger.kinds", laid_cleanse_ledger_kinds), ("cleanse/ledger.decisions", laid_cleanse_ledger_decisions)] }
def SessionInForceSaid : Prop := sessionInForceRow.holds Tryz.pinned (OpenSpec.ofChange sessionInForceSpec)

/-- ITS FALSE NEIGHBOUR: 'it returns false'. Refute it at one input. -/
def sessionInForceWrong : ChangeSpec := { name := "sessionInForce", fn := fun _ => fun
  | [d1, d2] => { results := [.lit (.bool false)], args := [d1, d2] }
  | _ => none }
def SessionInForceWrongFalsely : Prop := sessionInForceRow.holds Tryz.pinned (OpenSpec.ofChange sessionInForceWrong)

/- THE SECOND FORM. 'bulk': how many values and letters a reading holds, each counted each time it is reached (what is shared counts as often as it is met; a slice's spare places count too). A statement '..UptoSaid' is the law's where the arguments, and the package variables that the reading takes, are together of bulk at most 1048576: NARROWER than '..Said'. Prove '..Said' where nothing that the law and all that it calls make is longer than what came in: it says more and counts as full. Else prove '..UptoSaid'. A law counts once. -/
mutual
def uptoBulk {H : Type} : DataW H → Nat
  | .lit (.string bytes) => bytes.length + 1
  | .lit _ => 1
  | .nil => 1
  | .ptr d => uptoBulk d + 1
  | .slice elems spare => uptoBulkAll elems + uptoBulkAll spare + 1
  | .agg parts => uptoBulkAll parts + 1
  | .iface _ d => uptoBulk d + 1
  | .map entries => uptoBulkEntries entries + 1
  | .held _ => 1
def uptoBulkAll {H : Type} : List (DataW H) → Nat
  | [] => 0
  | d :: r => uptoBulk d + uptoBulkAll r
def uptoBulkEntries {H : Type} : List (Lit × DataW H) → Nat
  | [] => 0
  | x :: r => uptoBulkEntry x + uptoBulkEntries r
def uptoBulkEntry {H : Type} : Lit × DataW H → Nat
  | (.string bytes, d) => bytes.length + uptoBulk d + 1
  | (_, d) => uptoBulk d + 1
 end
def uptoSmall : (H : Type) → List (DataW H) → Bool := fun _ ds => decide (uptoBulkAll ds ≤ 1048576)
def OpenSpec.upto (s : _root_.Go.ChangeSpec) : _root_.Go.OpenSpec := { _root_.Go.OpenSpec.ofChange s with cond := some uptoSmall }

/-- 'cleanselaw48.SnapNumbers', WHERE WHAT IT READS IS OF BULK AT MOST 1048576: true; the input reads as it did. -/
def snapNumbersUptoRow : OpenClaim := { program := "ytklcfpomppgblaagreatdoor", sum := "5ef903da811d5985159f6e55cc09815c3606c3a5b00a6a249f3960a261d6f0a0", func := "cleanse/cleanselaw48.SnapNumbers", spec := "snapNumbers", inPlace := ["internal/bytealg.IndexByteString", "sync/atomic.LoadUint32", "(*internal/sync.Mutex).Lock", "internal/race.Disable", "sync/atomic.CompareAndSwapInt32", "internal/race.Enable", "internal/race.Acquire", "(*internal/sync.Mutex).lockSlow", "internal/sync.runtime_canSpin", "internal/sync.runtime_doSpin", "internal/sync.throw", "internal/sync.runtime_nanotime", "internal/sync.runtime_SemacquireMutex", "sync/atomic.AddInt32", "(*internal/sync.Mutex).Unlock", "internal/race.ReleaseMerge", "(*internal/sync.Mutex).unlockSlow", "internal/sync.fatal", "internal/sync.runtime_Semrelease", "sync/atomic.StoreUint32", "internal/abi.NoEscape", "internal/bytealg.MakeNoZero"], unfollowed := true, recurses := true, named := ["cleanse/ledger.kinds", "cleanse/ledger.decisions", "cleanse/feed.operations", "internal/strconv.uint64pow10", "math/bits.deBruijn32tab", "math/bits.deBruijn64tab"], plainKeys := false, apart := false, laid := [("math/bits.deBruijn32tab", laid_math_bits_deBruijn32tab), ("math/bits.deBruijn64tab", laid_math_bits_deBruijn64tab), ("internal/strconv.uint64pow10", laid_internal_strconv_uint64pow10), ("cleanse/ledger.kinds", laid_cleanse_ledger_kinds), ("cleanse/ledger.decisions", laid_cleanse_ledger_decisions)], narrowed := true }
def SnapNumbersUptoSaid : Prop := snapNumbersUptoRow.holds Tryz.pinned (OpenSpec.upto snapNumbersSpec)

/-- 'cleanselaw49.SessionClosed', WHERE WHAT IT READS IS OF BULK AT MOST 1048576: true; the input reads as it did. -/
def sessionClosedUptoRow : OpenClaim := { program := "ytklcfpomppgblaagreatdoor", sum := "5ef903da811d5985159f6e55cc09815c3606c3a5b00a6a249f3960a261d6f0a0", func := "cleanse/cleanselaw49.SessionClosed", spec := "sessionClosed", inPlace := ["internal/bytealg.IndexByteString", "sync/atomic.LoadUint32", "(*internal/sync.Mutex).Lock", "internal/race.Disable", "sync/atomic.CompareAndSwapInt32", "internal/race.Enable", "internal/race.Acquire", "(*internal/sync.Mutex).lockSlow", "internal/sync.runtime_canSpin", "internal/sync.runtime_doSpin", "internal/sync.throw", "internal/sync.runtime_nanotime", "internal/sync.runtime_SemacquireMutex", "sync/atomic.AddInt32", "(*internal/sync.Mutex).Unlock", "internal/race.ReleaseMerge", "(*internal/sync.Mutex).unlockSlow", "internal/sync.fatal", "internal/sync.runtime_Semrelease", "sync/atomic.StoreUint32", "internal/abi.NoEscape", "internal/bytealg.MakeNoZero"], unfollowed := true, recurses := true, named := ["cleanse/ledger.kinds", "cleanse/ledger.decisions", "cleanse/feed.operations", "internal/strconv.uint64pow10", "math/bits.deBruijn32tab", "math/bits.deBruijn64tab"], plainKeys := false, apart := false, laid := [("math/bits.deBruijn32tab", laid_math_bits_deBruijn32tab), ("math/bits.deBruijn64tab", laid_math_bits_deBruijn64tab), ("internal/strconv.uint64pow10", laid_internal_strconv_uint64pow10), ("cleanse/ledger.kinds", laid_cleanse_ledger_kinds), ("cleanse/ledger.decisions", laid_cleanse_ledger_decisions)], narrowed := true }
def SessionClosedUptoSaid : Prop := sessionClosedUptoRow.holds Tryz.pinned (OpenSpec.upto sessionClosedSpec)

end Rows
end Go.Proofs.YtklcfpomppgblaaGreatDoor
