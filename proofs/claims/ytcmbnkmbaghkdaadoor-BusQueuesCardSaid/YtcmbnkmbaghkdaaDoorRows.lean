/-
  NARROWER THAN 'FOR EVERY INPUT', by the rows' own cells (each row's printed sentence says how): BusQueues: laid · NicSends: laid · BlkReads: laid · BlkWrites: laid.
  DERIVED. THE GIVEN ROWS OF THIS SEAT. 4 by the template 'for every input the law returns true; each argument reads behind the call as it read before'; 0 by the template 'total and deterministic' (their statements: YtcmbnkmbaghkdaaDoorTotals.lean).
  GIVEN WITH THE SEED: the statements are not yours to turn. If you find one false, say at which input.
  Laid BY PROGRAM, IN A SANDBOX (cutbox-rows.mjs): the forced cells as the released guide's own fill.sh prints them over the translation 7ac90f7fb08e1e14… (all of the seat's roots in one cut). By AI agents, Wed Nov 11 2026. No macro, syntax, notation, axiom, sorry.
-/
import Derived.Test.YtcmbnkmbaghkdaaDoorChecked
import GoSem.Claim
import GoSem.ClaimJoined
import GoSem.ClaimMapViews
import Derived.JoinedTies
import Derived.KernelRfl
namespace Go.Proofs.YtcmbnkmbaghkdaaDoor
/- THE CELL 'sum', in the pinned program and in every row, IS THE sha256 OF THE DUMP (.gsa) THAT YtcmbnkmbaghkdaaDoorProg.lean LOADS. Nothing in Lean hashes anything: it is a label: what it is worth is what the hold of that sum in a sandbox is worth. -/
noncomputable def Tryd.pinned : Pinned := { name := "ytcmbnkmbaghkdaadoor", sum := "7ac90f7fb08e1e14991be9eca68deff0e29a99744a95552d846246dc6faadada", checked := Tryd.checked }
namespace Rows
def none {H : Type} : Left H := { results := [], args := [] }

/- WHAT THE LISTED PACKAGE-LEVEL VARIABLES READ AS WHEN THE CALL BEGINS. Each datum BY PROGRAM (the guide's laid-datum.mjs) off the statement by which the dump's own 'gosem.cut.vars' lays the variable. In a bare row this is a premise. The card (YtcmbnkmbaghkdaaDoorCards.lean) ties it to the program's text. -/
def laid_errors_errorType {H : Type} : DataW H := .iface "internal/reflectlite.rtype" (.agg [.ptr (.lit (.string [101, 114, 114, 111, 114]))])
def laid_pinnace_bus_regions {H : Type} : DataW H := .agg [.agg [.lit (.int .u32 0), .lit (.int .u32 0), .lit (.int .i64 0)], .agg [.lit (.int .u32 33554432), .lit (.int .u32 65536), .lit (.int .i64 4)], .agg [.lit (.int .u32 201326592), .lit (.int .u32 4194304), .lit (.int .i64 4)], .agg [.lit (.int .u32 268435456), .lit (.int .u32 8), .lit (.int .i64 1)], .agg [.lit (.int .u32 268500992), .lit (.int .u32 256), .lit (.int .i64 4)], .agg [.lit (.int .u32 268566528), .lit (.int .u32 512), .lit (.int .i64 4)], .agg [.lit (.int .u32 268632064), .lit (.int .u32 512), .lit (.int .i64 4)], .agg [.lit (.int .u32 2147483648), .lit (.int .u32 0), .lit (.int .i64 0)]]

/-- 'pinnacelaw07.BusQueues': WHATEVER THE INPUT: true; the input reads as it did. -/
def busQueuesSpec : ChangeSpec := { name := "busQueues", fn := fun _ => fun
  | [d1, d2] => { results := [.lit (.bool true)], args := [d1, d2] }
  | _ => none }
def busQueuesRow : OpenClaim := { program := "ytcmbnkmbaghkdaadoor", sum := "7ac90f7fb08e1e14991be9eca68deff0e29a99744a95552d846246dc6faadada", func := "pinnace/pinnacelaw07.BusQueues", spec := "busQueues", inPlace := ["internal/reflectlite.ValueOf", "(internal/reflectlite.Value).Type", "(internal/reflectlite.Value).IsNil", "internal/reflectlite.TypeOf", "(internal/reflectlite.Value).Elem", "(internal/reflectlite.Value).Set"], unfollowed := true, recurses := true, named := ["pinnace/bus.regions", "errors.errorType"], apart := false, laid := [("errors.errorType", laid_errors_errorType), ("pinnace/bus.regions", laid_pinnace_bus_regions)] }
def BusQueuesSaid : Prop := busQueuesRow.holds Tryd.pinned (OpenSpec.ofChange busQueuesSpec)

/-- ITS FALSE NEIGHBOUR: 'it returns false'. Refute it at one input. -/
def busQueuesWrong : ChangeSpec := { name := "busQueues", fn := fun _ => fun
  | [d1, d2] => { results := [.lit (.bool false)], args := [d1, d2] }
  | _ => none }
def BusQueuesWrongFalsely : Prop := busQueuesRow.holds Tryd.pinned (OpenSpec.ofChange busQueuesWrong)

/-- 'pinnacelaw16.NicSends': WHATEVER THE INPUT: true; the input reads as it did. -/
def nicSendsSpec : ChangeSpec := { name := "nicSends", fn := fun _ => fun
  | [d1, d2] => { results := [.lit (.bool true)], args := [d1, d2] }
  | _ => none }
def nicSendsRow : OpenClaim := { program := "ytcmbnkmbaghkdaadoor", sum := "7ac90f7fb08e1e14991be9eca68deff0e29a99744a95552d846246dc6faadada", func := "pinnace/pinnacelaw16.NicSends", spec := "nicSends", inPlace := ["sync/atomic.AddInt64", "sync/atomic.LoadUint32", "(*internal/sync.Mutex).Lock", "internal/race.Disable", "sync/atomic.CompareAndSwapInt32", "internal/race.Enable", "internal/race.Acquire", "(*internal/sync.Mutex).lockSlow", "internal/sync.runtime_canSpin", "internal/sync.runtime_doSpin", "internal/sync.throw", "internal/sync.runtime_nanotime", "internal/sync.runtime_SemacquireMutex", "sync/atomic.AddInt32", "(*internal/sync.Mutex).Unlock", "internal/race.ReleaseMerge", "(*internal/sync.Mutex).unlockSlow", "internal/sync.fatal", "internal/sync.runtime_Semrelease", "sync/atomic.StoreUint32"], unfollowed := true, recurses := true, named := ["pinnace/bus.regions"], apart := false, laid := [("pinnace/bus.regions", laid_pinnace_bus_regions)] }
def NicSendsSaid : Prop := nicSendsRow.holds Tryd.pinned (OpenSpec.ofChange nicSendsSpec)

/-- ITS FALSE NEIGHBOUR: 'it returns false'. Refute it at one input. -/
def nicSendsWrong : ChangeSpec := { name := "nicSends", fn := fun _ => fun
  | [d1, d2] => { results := [.lit (.bool false)], args := [d1, d2] }
  | _ => none }
def NicSendsWrongFalsely : Prop := nicSendsRow.holds Tryd.pinned (OpenSpec.ofChange nicSendsWrong)

/-- 'pinnacelaw15.BlkReads': WHATEVER THE INPUT: true; the input reads as it did. -/
def blkReadsSpec : ChangeSpec := { name := "blkReads", fn := fun _ => fun
  | [d1, d2, d3] => { results := [.lit (.bool true)], args := [d1, d2, d3] }
  | _ => none }
def blkReadsRow : OpenClaim := { program := "ytcmbnkmbaghkdaadoor", sum := "7ac90f7fb08e1e14991be9eca68deff0e29a99744a95552d846246dc6faadada", func := "pinnace/pinnacelaw15.BlkReads", spec := "blkReads", inPlace := ["sync/atomic.AddInt64", "sync/atomic.LoadUint32", "(*internal/sync.Mutex).Lock", "internal/race.Disable", "sync/atomic.CompareAndSwapInt32", "internal/race.Enable", "internal/race.Acquire", "(*internal/sync.Mutex).lockSlow", "internal/sync.runtime_canSpin", "internal/sync.runtime_doSpin", "internal/sync.throw", "internal/sync.runtime_nanotime", "internal/sync.runtime_SemacquireMutex", "sync/atomic.AddInt32", "(*internal/sync.Mutex).Unlock", "internal/race.ReleaseMerge", "(*internal/sync.Mutex).unlockSlow", "internal/sync.fatal", "internal/sync.runtime_Semrelease", "sync/atomic.StoreUint32"], unfollowed := true, recurses := true, named := ["pinnace/bus.regions"], apart := false, laid := [("pinnace/bus.regions", laid_pinnace_bus_regions)] }
def BlkReadsSaid : Prop := blkReadsRow.holds Tryd.pinned (OpenSpec.ofChange blkReadsSpec)

/-- ITS FALSE NEIGHBOUR: 'it returns false'. Refute it at one input. -/
def blkReadsWrong : ChangeSpec := { name := "blkReads", fn := fun _ => fun
  | [d1, d2, d3] => { results := [.lit (.bool false)], args := [d1, d2, d3] }
  | _ => none }
def BlkReadsWrongFalsely : Prop := blkReadsRow.holds Tryd.pinned (OpenSpec.ofChange blkReadsWrong)

/-- 'pinnacelaw15.BlkWrites': WHATEVER THE INPUT: true; the input reads as it did. -/
def blkWritesSpec : ChangeSpec := { name := "blkWrites", fn := fun _ => fun
  | [d1, d2, d3] => { results := [.lit (.bool true)], args := [d1, d2, d3] }
  | _ => none }
def blkWritesRow : OpenClaim := { program := "ytcmbnkmbaghkdaadoor", sum := "7ac90f7fb08e1e14991be9eca68deff0e29a99744a95552d846246dc6faadada", func := "pinnace/pinnacelaw15.BlkWrites", spec := "blkWrites", inPlace := ["sync/atomic.AddInt64", "sync/atomic.LoadUint32", "(*internal/sync.Mutex).Lock", "internal/race.Disable", "sync/atomic.CompareAndSwapInt32", "internal/race.Enable", "internal/race.Acquire", "(*internal/sync.Mutex).lockSlow", "internal/sync.runtime_canSpin", "internal/sync.runtime_doSpin", "internal/sync.throw", "internal/sync.runtime_nanotime", "internal/sync.runtime_SemacquireMutex", "sync/atomic.AddInt32", "(*internal/sync.Mutex).Unlock", "internal/race.ReleaseMerge", "(*internal/sync.Mutex).unlockSlow", "internal/sync.fatal", "internal/sync.runtime_Semrelease", "sync/atomic.StoreUint32"], unfollowed := true, recurses := true, named := ["pinnace/bus.regions"], apart := false, laid := [("pinnace/bus.regions", laid_pinnace_bus_regions)] }
def BlkWritesSaid : Prop := blkWritesRow.holds Tryd.pinned (OpenSpec.ofChange blkWritesSpec)

/-- ITS FALSE NEIGHBOUR: 'it returns false'. Refute it at one input. -/
def blkWritesWrong : ChangeSpec := { name := "blkWrites", fn := fun _ => fun
  | [d1, d2, d3] => { results := [.lit (.bool false)], args := [d1, d2, d3] }
  | _ => none }
def BlkWritesWrongFalsely : Prop := blkWritesRow.holds Tryd.pinned (OpenSpec.ofChange blkWritesWrong)

/- THE SECOND FORM. 'bulk': how many values and letters a reading holds, each counted each time it is reached (what is shared counts as often as it is met; a slice's spare places count too). A statement '..UptoSaid' is the law's where the arguments, and the package variables that the reading takes, are together of bulk at most 1048576: NARROWER than '..Said'. Prove '..Said' where nothing that the law and all that it calls make is longer than what came in: it says more and counts as full. Else prove '..UptoSaid'. A law counts once. -/
mutual
def uptoBulk {H : Type} : DataW H → Nat
  | .lit (.string bytes) => bytes.length + 1
  | .lit _ => 1
  | .nil => 1
  | .ptr d => uptoBulk d + 1
  | .slice elems spare => uptoBulkAll elems + uptoBulkAll spare + 1
  | .agg parts => uptoBulkAll parts + 1
  | .iface _ d => uptoBulk d + 1
  | .map entries => uptoBulkEntries entries + 1
  | .held _ => 1
def uptoBulkAll {H : Type} : List (DataW H) → Nat
  | [] => 0
  | d :: r => uptoBulk d + uptoBulkAll r
def uptoBulkEntries {H : Type} : List (Lit × DataW H) → Nat
  | [] => 0
  | x :: r => uptoBulkEntry x + uptoBulkEntries r
def uptoBulkEntry {H : Type} : Lit × DataW H → Nat
  | (.string bytes, d) => bytes.length + uptoBulk d + 1
  | (_, d) => uptoBulk d + 1
 end
def uptoSmall : (H : Type) → List (DataW H) → Bool := fun _ ds => decide (uptoBulkAll ds ≤ 1048576)
def OpenSpec.upto (s : _root_.Go.ChangeSpec) : _root_.Go.OpenSpec := { _root_.Go.OpenSpec.ofChange s with cond := some uptoSmall }

/-- 'pinnacelaw07.BusQueues', WHERE WHAT IT READS IS OF BULK AT MOST 1048576: true; the input reads as it did. -/
def busQueuesUptoRow : OpenClaim := { program := "ytcmbnkmbaghkdaadoor", sum := "7ac90f7fb08e1e14991be9eca68deff0e29a99744a95552d846246dc6faadada", func := "pinnace/pinnacelaw07.BusQueues", spec := "busQueues", inPlace := ["internal/reflectlite.ValueOf", "(internal/reflectlite.Value).Type", "(internal/reflectlite.Value).IsNil", "internal/reflectlite.TypeOf", "(internal/reflectlite.Value).Elem", "(internal/reflectlite.Value).Set"], unfollowed := true, recurses := true, named := ["pinnace/bus.regions", "errors.errorType"], apart := false, laid := [("errors.errorType", laid_errors_errorType), ("pinnace/bus.regions", laid_pinnace_bus_regions)], narrowed := true }
def BusQueuesUptoSaid : Prop := busQueuesUptoRow.holds Tryd.pinned (OpenSpec.upto busQueuesSpec)

/-- 'pinnacelaw16.NicSends', WHERE WHAT IT READS IS OF BULK AT MOST 1048576: true; the input reads as it did. -/
def nicSendsUptoRow : OpenClaim := { program := "ytcmbnkmbaghkdaadoor", sum := "7ac90f7fb08e1e14991be9eca68deff0e29a99744a95552d846246dc6faadada", func := "pinnace/pinnacelaw16.NicSends", spec := "nicSends", inPlace := ["sync/atomic.AddInt64", "sync/atomic.LoadUint32", "(*internal/sync.Mutex).Lock", "internal/race.Disable", "sync/atomic.CompareAndSwapInt32", "internal/race.Enable", "internal/race.Acquire", "(*internal/sync.Mutex).lockSlow", "internal/sync.runtime_canSpin", "internal/sync.runtime_doSpin", "internal/sync.throw", "internal/sync.runtime_nanotime", "internal/sync.runtime_SemacquireMutex", "sync/atomic.AddInt32", "(*internal/sync.Mutex).Unlock", "internal/race.ReleaseMerge", "(*internal/sync.Mutex).unlockSlow", "internal/sync.fatal", "internal/sync.runtime_Semrelease", "sync/atomic.StoreUint32"], unfollowed := true, recurses := true, named := ["pinnace/bus.regions"], apart := false, laid := [("pinnace/bus.regions", laid_pinnace_bus_regions)], narrowed := true }
def NicSendsUptoSaid : Prop := nicSendsUptoRow.holds Tryd.pinned (OpenSpec.upto nicSendsSpec)

/-- 'pinnacelaw15.BlkReads', WHERE WHAT IT READS IS OF BULK AT MOST 1048576: true; the input reads as it did. -/
def blkReadsUptoRow : OpenClaim := { program := "ytcmbnkmbaghkdaadoor", sum := "7ac90f7fb08e1e14991be9eca68deff0e29a99744a95552d846246dc6faadada", func := "pinnace/pinnacelaw15.BlkReads", spec := "blkReads", inPlace := ["sync/atomic.AddInt64", "sync/atomic.LoadUint32", "(*internal/sync.Mutex).Lock", "internal/race.Disable", "sync/atomic.CompareAndSwapInt32", "internal/race.Enable", "internal/race.Acquire", "(*internal/sync.Mutex).lockSlow", "internal/sync.runtime_canSpin", "internal/sync.runtime_doSpin", "internal/sync.throw", "internal/sync.runtime_nanotime", "internal/sync.runtime_SemacquireMutex", "sync/atomic.AddInt32", "(*internal/sync.Mutex).Unlock", "internal/race.ReleaseMerge", "(*internal/sync.Mutex).unlockSlow", "internal/sync.fatal", "internal/sync.runtime_Semrelease", "sync/atomic.StoreUint32"], unfollowed := true, recurses := true, named := ["pinnace/bus.regions"], apart := false, laid := [("pinnace/bus.regions", laid_pinnace_bus_regions)], narrowed := true }
def BlkReadsUptoSaid : Prop := blkReadsUptoRow.holds Tryd.pinned (OpenSpec.upto blkReadsSpec)

/-- 'pinnacelaw15.BlkWrites', WHERE WHAT IT READS IS OF BULK AT MOST 1048576: true; the input reads as it did. -/
def blkWritesUptoRow : OpenClaim := { program := "ytcmbnkmbaghkdaadoor", sum := "7ac90f7fb08e1e14991be9eca68deff0e29a99744a95552d846246dc6faadada", func := "pinnace/pinnacelaw15.BlkWrites", spec := "blkWrites", inPlace := ["sync/atomic.AddInt64", "sync/atomic.LoadUint32", "(*internal/sync.Mutex).Lock", "internal/race.Disable", "sync/atomic.CompareAndSwapInt32", "internal/race.Enable", "internal/race.Acquire", "(*internal/sync.Mutex).lockSlow", "internal/sync.runtime_canSpin", "internal/sync.runtime_doSpin", "internal/sync.throw", "internal/sync.runtime_nanotime", "internal/sync.runtime_SemacquireMutex", "sync/atomic.AddInt32", "(*internal/sync.Mutex).Unlock", "internal/race.ReleaseMerge", "(*internal/sync.Mutex).unlockSlow", "internal/sync.fatal", "internal/sync.runtime_Semrelease", "sync/atomic.StoreUint32"], unfollowed := true, recurses := true, named := ["pinnace/bus.regions"], apart := false, laid := [("pinnace/bus.regions", laid_pinnace_bus_regions)], narrowed := true }
def BlkWritesUptoSaid : Prop := blkWritesUptoRow.holds Tryd.pinned (OpenSpec.upto blkWritesSpec)

end Rows
end Go.Proofs.YtcmbnkmbaghkdaaDoor
