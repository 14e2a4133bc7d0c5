/-
  NARROWER THAN 'FOR EVERY INPUT', by the rows' own cells (each row's printed sentence says how): PowerNone: calm, laid · PowerOnce: calm, laid · PowerNames: calm, laid · PowerTimes: calm, laid · PowerBounds: calm, laid · PowerCounts: calm, laid.
  DERIVED. THE GIVEN ROWS OF THIS SEAT. 6 by the template 'for every input the law returns true; each argument reads behind the call as it read before'; 0 by the template 'total and deterministic' (their statements: YtlhcnophehfkoaaDoorTotals.lean).
  GIVEN WITH THE SEED: the statements are not yours to turn. If you find one false, say at which input.
  Laid BY PROGRAM, IN A SANDBOX (cutbox-rows.mjs): the forced cells as the released guide's own fill.sh prints them over the translation 3d8ac26e7706f75a… (all of the seat's roots in one cut). By AI agents, Wed Nov 11 2026. No macro, syntax, notation, axiom, sorry.
-/
import Derived.Test.YtlhcnophehfkoaaDoorChecked
import GoSem.Claim
import GoSem.ClaimJoined
import GoSem.ClaimMapViews
import Derived.JoinedTies
import Derived.KernelRfl
namespace Go.Proofs.YtlhcnophehfkoaaDoor
/- THE CELL 'sum', in the pinned program and in every row, IS THE sha256 OF THE DUMP (.gsa) THAT YtlhcnophehfkoaaDoorProg.lean LOADS. Nothing in Lean hashes anything: it is a label: what it is worth is what the hold of that sum in a sandbox is worth. -/
noncomputable def Tryd.pinned : Pinned := { name := "ytlhcnophehfkoaadoor", sum := "3d8ac26e7706f75a95931f248453e97801c9ac20ebbde93be739f0b727f75196", checked := Tryd.checked }
namespace Rows
def none {H : Type} : Left H := { results := [], args := [] }

/- WHAT THE LISTED PACKAGE-LEVEL VARIABLES READ AS WHEN THE CALL BEGINS. Each datum BY PROGRAM (the guide's laid-datum.mjs) off the statement by which the dump's own 'gosem.cut.vars' lays the variable. In a bare row this is a premise. The card (YtlhcnophehfkoaaDoorCards.lean) ties it to the program's text. -/
def laid_numeral_power_fives {H : Type} : DataW H := .agg [.lit (.int .u64 1), .lit (.int .u64 5), .lit (.int .u64 25), .lit (.int .u64 125), .lit (.int .u64 625), .lit (.int .u64 3125), .lit (.int .u64 15625), .lit (.int .u64 78125), .lit (.int .u64 390625), .lit (.int .u64 1953125), .lit (.int .u64 9765625), .lit (.int .u64 48828125), .lit (.int .u64 244140625), .lit (.int .u64 1220703125), .lit (.int .u64 6103515625), .lit (.int .u64 30517578125), .lit (.int .u64 152587890625), .lit (.int .u64 762939453125), .lit (.int .u64 3814697265625), .lit (.int .u64 19073486328125), .lit (.int .u64 95367431640625), .lit (.int .u64 476837158203125), .lit (.int .u64 2384185791015625), .lit (.int .u64 11920928955078125), .lit (.int .u64 59604644775390625), .lit (.int .u64 298023223876953125), .lit (.int .u64 1490116119384765625), .lit (.int .u64 7450580596923828125)]

/-- 'numerallaw13.PowerNone': WHATEVER THE INPUT: true; the input reads as it did. -/
def powerNoneSpec : ChangeSpec := { name := "powerNone", fn := fun _ => fun
  | [d1, d2] => { results := [.lit (.bool true)], args := [d1, d2] }
  | _ => none }
def powerNoneRow : OpenClaim := { program := "ytlhcnophehfkoaadoor", sum := "3d8ac26e7706f75a95931f248453e97801c9ac20ebbde93be739f0b727f75196", func := "numeral/numerallaw13.PowerNone", spec := "powerNone", inPlace := ["(*sync.WaitGroup).Add", "internal/race.ReleaseMerge", "internal/race.Disable", "internal/race.Enable", "internal/synctest.IsInBubble", "internal/synctest.Associate[sync.WaitGroup]", "sync.fatal", "sync/atomic.OrUint64", "sync/atomic.AddUint64", "internal/race.Read", "sync/atomic.LoadUint64", "sync/atomic.StoreUint64", "internal/synctest.Disassociate[sync.WaitGroup]", "sync.runtime_Semrelease", "(*sync.WaitGroup).Done", "sync/atomic.LoadUint32", "(*internal/sync.Mutex).Lock", "sync/atomic.CompareAndSwapInt32", "internal/race.Acquire", "(*internal/sync.Mutex).lockSlow", "internal/sync.runtime_canSpin", "internal/sync.runtime_doSpin", "internal/sync.throw", "internal/sync.runtime_nanotime", "internal/sync.runtime_SemacquireMutex", "sync/atomic.AddInt32", "(*internal/sync.Mutex).Unlock", "(*internal/sync.Mutex).unlockSlow", "internal/sync.fatal", "internal/sync.runtime_Semrelease", "sync/atomic.StoreUint32", "(*sync.WaitGroup).Wait", "internal/synctest.IsAssociated[sync.WaitGroup]", "sync/atomic.CompareAndSwapUint64", "internal/race.Write", "sync.runtime_SemacquireWaitGroup"], unfollowed := true, recurses := true, named := ["numeral/power.fives", "math/bits.overflowError"], leaving := true, apart := false, calm := true, outside := [.timePasses], laid := [("numeral/power.fives", laid_numeral_power_fives)] }
def PowerNoneSaid : Prop := powerNoneRow.holds Tryd.pinned (OpenSpec.ofChange powerNoneSpec)

/-- ITS FALSE NEIGHBOUR: 'it returns false'. Refute it at one input. -/
def powerNoneWrong : ChangeSpec := { name := "powerNone", fn := fun _ => fun
  | [d1, d2] => { results := [.lit (.bool false)], args := [d1, d2] }
  | _ => none }
def PowerNoneWrongFalsely : Prop := powerNoneRow.holds Tryd.pinned (OpenSpec.ofChange powerNoneWrong)

/-- 'numerallaw13.PowerOnce': WHATEVER THE INPUT: true; the input reads as it did. -/
def powerOnceSpec : ChangeSpec := { name := "powerOnce", fn := fun _ => fun
  | [d1, d2, d3] => { results := [.lit (.bool true)], args := [d1, d2, d3] }
  | _ => none }
def powerOnceRow : OpenClaim := { program := "ytlhcnophehfkoaadoor", sum := "3d8ac26e7706f75a95931f248453e97801c9ac20ebbde93be739f0b727f75196", func := "numeral/numerallaw13.PowerOnce", spec := "powerOnce", inPlace := ["(*sync.WaitGroup).Add", "internal/race.ReleaseMerge", "internal/race.Disable", "internal/race.Enable", "internal/synctest.IsInBubble", "internal/synctest.Associate[sync.WaitGroup]", "sync.fatal", "sync/atomic.OrUint64", "sync/atomic.AddUint64", "internal/race.Read", "sync/atomic.LoadUint64", "sync/atomic.StoreUint64", "internal/synctest.Disassociate[sync.WaitGroup]", "sync.runtime_Semrelease", "(*sync.WaitGroup).Done", "sync/atomic.LoadUint32", "(*internal/sync.Mutex).Lock", "sync/atomic.CompareAndSwapInt32", "internal/race.Acquire", "(*internal/sync.Mutex).lockSlow", "internal/sync.runtime_canSpin", "internal/sync.runtime_doSpin", "internal/sync.throw", "internal/sync.runtime_nanotime", "internal/sync.runtime_SemacquireMutex", "sync/atomic.AddInt32", "(*internal/sync.Mutex).Unlock", "(*internal/sync.Mutex).unlockSlow", "internal/sync.fatal", "internal/sync.runtime_Semrelease", "sync/atomic.StoreUint32", "(*sync.WaitGroup).Wait", "internal/synctest.IsAssociated[sync.WaitGroup]", "sync/atomic.CompareAndSwapUint64", "internal/race.Write", "sync.runtime_SemacquireWaitGroup"], unfollowed := true, recurses := true, named := ["numeral/power.fives", "math/bits.overflowError"], leaving := true, apart := false, calm := true, outside := [.timePasses], laid := [("numeral/power.fives", laid_numeral_power_fives)] }
def PowerOnceSaid : Prop := powerOnceRow.holds Tryd.pinned (OpenSpec.ofChange powerOnceSpec)

/-- ITS FALSE NEIGHBOUR: 'it returns false'. Refute it at one input. -/
def powerOnceWrong : ChangeSpec := { name := "powerOnce", fn := fun _ => fun
  | [d1, d2, d3] => { results := [.lit (.bool false)], args := [d1, d2, d3] }
  | _ => none }
def PowerOnceWrongFalsely : Prop := powerOnceRow.holds Tryd.pinned (OpenSpec.ofChange powerOnceWrong)

/-- 'numerallaw13.PowerNames': WHATEVER THE INPUT: true; the input reads as it did. -/
def powerNamesSpec : ChangeSpec := { name := "powerNames", fn := fun _ => fun
  | [] => { results := [.lit (.bool true)], args := [] }
  | _ => none }
def powerNamesRow : OpenClaim := { program := "ytlhcnophehfkoaadoor", sum := "3d8ac26e7706f75a95931f248453e97801c9ac20ebbde93be739f0b727f75196", func := "numeral/numerallaw13.PowerNames", spec := "powerNames", inPlace := ["(*sync.WaitGroup).Add", "internal/race.ReleaseMerge", "internal/race.Disable", "internal/race.Enable", "internal/synctest.IsInBubble", "internal/synctest.Associate[sync.WaitGroup]", "sync.fatal", "sync/atomic.OrUint64", "sync/atomic.AddUint64", "internal/race.Read", "sync/atomic.LoadUint64", "sync/atomic.StoreUint64", "internal/synctest.Disassociate[sync.WaitGroup]", "sync.runtime_Semrelease", "(*sync.WaitGroup).Done", "sync/atomic.LoadUint32", "(*internal/sync.Mutex).Lock", "sync/atomic.CompareAndSwapInt32", "internal/race.Acquire", "(*internal/sync.Mutex).lockSlow", "internal/sync.runtime_canSpin", "internal/sync.runtime_doSpin", "internal/sync.throw", "internal/sync.runtime_nanotime", "internal/sync.runtime_SemacquireMutex", "sync/atomic.AddInt32", "(*internal/sync.Mutex).Unlock", "(*internal/sync.Mutex).unlockSlow", "internal/sync.fatal", "internal/sync.runtime_Semrelease", "sync/atomic.StoreUint32", "(*sync.WaitGroup).Wait", "internal/synctest.IsAssociated[sync.WaitGroup]", "sync/atomic.CompareAndSwapUint64", "internal/race.Write", "sync.runtime_SemacquireWaitGroup"], unfollowed := true, recurses := true, named := ["numeral/power.fives", "math/bits.overflowError"], leaving := true, apart := false, calm := true, outside := [.timePasses], laid := [("numeral/power.fives", laid_numeral_power_fives)] }
def PowerNamesSaid : Prop := powerNamesRow.holds Tryd.pinned (OpenSpec.ofChange powerNamesSpec)

/-- ITS FALSE NEIGHBOUR: 'it returns false'. Refute it at one input. -/
def powerNamesWrong : ChangeSpec := { name := "powerNames", fn := fun _ => fun
  | [] => { results := [.lit (.bool false)], args := [] }
  | _ => none }
def PowerNamesWrongFalsely : Prop := powerNamesRow.holds Tryd.pinned (OpenSpec.ofChange powerNamesWrong)

/-- 'numerallaw13.PowerTimes': WHATEVER THE INPUT: true; the input reads as it did. -/
def powerTimesSpec : ChangeSpec := { name := "powerTimes", fn := fun _ => fun
  | [d1, d2] => { results := [.lit (.bool true)], args := [d1, d2] }
  | _ => none }
def powerTimesRow : OpenClaim := { program := "ytlhcnophehfkoaadoor", sum := "3d8ac26e7706f75a95931f248453e97801c9ac20ebbde93be739f0b727f75196", func := "numeral/numerallaw13.PowerTimes", spec := "powerTimes", inPlace := ["(*sync.WaitGroup).Add", "internal/race.ReleaseMerge", "internal/race.Disable", "internal/race.Enable", "internal/synctest.IsInBubble", "internal/synctest.Associate[sync.WaitGroup]", "sync.fatal", "sync/atomic.OrUint64", "sync/atomic.AddUint64", "internal/race.Read", "sync/atomic.LoadUint64", "sync/atomic.StoreUint64", "internal/synctest.Disassociate[sync.WaitGroup]", "sync.runtime_Semrelease", "(*sync.WaitGroup).Done", "sync/atomic.LoadUint32", "(*internal/sync.Mutex).Lock", "sync/atomic.CompareAndSwapInt32", "internal/race.Acquire", "(*internal/sync.Mutex).lockSlow", "internal/sync.runtime_canSpin", "internal/sync.runtime_doSpin", "internal/sync.throw", "internal/sync.runtime_nanotime", "internal/sync.runtime_SemacquireMutex", "sync/atomic.AddInt32", "(*internal/sync.Mutex).Unlock", "(*internal/sync.Mutex).unlockSlow", "internal/sync.fatal", "internal/sync.runtime_Semrelease", "sync/atomic.StoreUint32", "(*sync.WaitGroup).Wait", "internal/synctest.IsAssociated[sync.WaitGroup]", "sync/atomic.CompareAndSwapUint64", "internal/race.Write", "sync.runtime_SemacquireWaitGroup", "math/bits.Add64"], unfollowed := true, recurses := true, named := ["numeral/power.fives", "math/bits.overflowError"], leaving := true, apart := false, calm := true, outside := [.timePasses], laid := [("numeral/power.fives", laid_numeral_power_fives)] }
def PowerTimesSaid : Prop := powerTimesRow.holds Tryd.pinned (OpenSpec.ofChange powerTimesSpec)

/-- ITS FALSE NEIGHBOUR: 'it returns false'. Refute it at one input. -/
def powerTimesWrong : ChangeSpec := { name := "powerTimes", fn := fun _ => fun
  | [d1, d2] => { results := [.lit (.bool false)], args := [d1, d2] }
  | _ => none }
def PowerTimesWrongFalsely : Prop := powerTimesRow.holds Tryd.pinned (OpenSpec.ofChange powerTimesWrong)

/-- 'numerallaw13.PowerBounds': WHATEVER THE INPUT: true; the input reads as it did. -/
def powerBoundsSpec : ChangeSpec := { name := "powerBounds", fn := fun _ => fun
  | [d] => { results := [.lit (.bool true)], args := [d] }
  | _ => none }
def powerBoundsRow : OpenClaim := { program := "ytlhcnophehfkoaadoor", sum := "3d8ac26e7706f75a95931f248453e97801c9ac20ebbde93be739f0b727f75196", func := "numeral/numerallaw13.PowerBounds", spec := "powerBounds", inPlace := ["(*sync.WaitGroup).Add", "internal/race.ReleaseMerge", "internal/race.Disable", "internal/race.Enable", "internal/synctest.IsInBubble", "internal/synctest.Associate[sync.WaitGroup]", "sync.fatal", "sync/atomic.OrUint64", "sync/atomic.AddUint64", "internal/race.Read", "sync/atomic.LoadUint64", "sync/atomic.StoreUint64", "internal/synctest.Disassociate[sync.WaitGroup]", "sync.runtime_Semrelease", "(*sync.WaitGroup).Done", "sync/atomic.LoadUint32", "(*internal/sync.Mutex).Lock", "sync/atomic.CompareAndSwapInt32", "internal/race.Acquire", "(*internal/sync.Mutex).lockSlow", "internal/sync.runtime_canSpin", "internal/sync.runtime_doSpin", "internal/sync.throw", "internal/sync.runtime_nanotime", "internal/sync.runtime_SemacquireMutex", "sync/atomic.AddInt32", "(*internal/sync.Mutex).Unlock", "(*internal/sync.Mutex).unlockSlow", "internal/sync.fatal", "internal/sync.runtime_Semrelease", "sync/atomic.StoreUint32", "(*sync.WaitGroup).Wait", "internal/synctest.IsAssociated[sync.WaitGroup]", "sync/atomic.CompareAndSwapUint64", "internal/race.Write", "sync.runtime_SemacquireWaitGroup"], unfollowed := true, recurses := true, named := ["numeral/power.fives", "math/bits.overflowError"], leaving := true, apart := false, calm := true, outside := [.timePasses], laid := [("numeral/power.fives", laid_numeral_power_fives)] }
def PowerBoundsSaid : Prop := powerBoundsRow.holds Tryd.pinned (OpenSpec.ofChange powerBoundsSpec)

/-- ITS FALSE NEIGHBOUR: 'it returns false'. Refute it at one input. -/
def powerBoundsWrong : ChangeSpec := { name := "powerBounds", fn := fun _ => fun
  | [d] => { results := [.lit (.bool false)], args := [d] }
  | _ => none }
def PowerBoundsWrongFalsely : Prop := powerBoundsRow.holds Tryd.pinned (OpenSpec.ofChange powerBoundsWrong)

/-- 'numerallaw13.PowerCounts': WHATEVER THE INPUT: true; the input reads as it did. -/
def powerCountsSpec : ChangeSpec := { name := "powerCounts", fn := fun _ => fun
  | [d1, d2] => { results := [.lit (.bool true)], args := [d1, d2] }
  | _ => none }
def powerCountsRow : OpenClaim := { program := "ytlhcnophehfkoaadoor", sum := "3d8ac26e7706f75a95931f248453e97801c9ac20ebbde93be739f0b727f75196", func := "numeral/numerallaw13.PowerCounts", spec := "powerCounts", inPlace := ["(*sync.WaitGroup).Add", "internal/race.ReleaseMerge", "internal/race.Disable", "internal/race.Enable", "internal/synctest.IsInBubble", "internal/synctest.Associate[sync.WaitGroup]", "sync.fatal", "sync/atomic.OrUint64", "sync/atomic.AddUint64", "internal/race.Read", "sync/atomic.LoadUint64", "sync/atomic.StoreUint64", "internal/synctest.Disassociate[sync.WaitGroup]", "sync.runtime_Semrelease", "(*sync.WaitGroup).Done", "sync/atomic.LoadUint32", "(*internal/sync.Mutex).Lock", "sync/atomic.CompareAndSwapInt32", "internal/race.Acquire", "(*internal/sync.Mutex).lockSlow", "internal/sync.runtime_canSpin", "internal/sync.runtime_doSpin", "internal/sync.throw", "internal/sync.runtime_nanotime", "internal/sync.runtime_SemacquireMutex", "sync/atomic.AddInt32", "(*internal/sync.Mutex).Unlock", "(*internal/sync.Mutex).unlockSlow", "internal/sync.fatal", "internal/sync.runtime_Semrelease", "sync/atomic.StoreUint32", "(*sync.WaitGroup).Wait", "internal/synctest.IsAssociated[sync.WaitGroup]", "sync/atomic.CompareAndSwapUint64", "internal/race.Write", "sync.runtime_SemacquireWaitGroup"], unfollowed := true, recurses := true, named := ["numeral/power.fives", "math/bits.overflowError"], leaving := true, apart := false, calm := true, outside := [.timePasses], laid := [("numeral/power.fives", laid_numeral_power_fives)] }
def PowerCountsSaid : Prop := powerCountsRow.holds Tryd.pinned (OpenSpec.ofChange powerCountsSpec)

/-- ITS FALSE NEIGHBOUR: 'it returns false'. Refute it at one input. -/
def powerCountsWrong : ChangeSpec := { name := "powerCounts", fn := fun _ => fun
  | [d1, d2] => { results := [.lit (.bool false)], args := [d1, d2] }
  | _ => none }
def PowerCountsWrongFalsely : Prop := powerCountsRow.holds Tryd.pinned (OpenSpec.ofChange powerCountsWrong)

end Rows
end Go.Proofs.YtlhcnophehfkoaaDoor
