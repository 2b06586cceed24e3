/-
  NARROWER THAN 'FOR EVERY INPUT', by the rows' own cells (each row's printed sentence says how): DmaTicks: laid · DmaHolds: laid · DmaStops: laid · RingOnce: laid · MemNew: laid · DmaRegs: laid · RingWalks: laid.
  DERIVED. THE GIVEN ROWS OF THIS SEAT. 7 by the template 'for every input the law returns true; each argument reads behind the call as it read before'; 0 by the template 'total and deterministic' (their statements: YtcakcfeipfjmpaaDoorTotals.lean).
  GIVEN WITH THE SEED: the statements are not yours to turn. If you find one false, say at which input.
  Laid BY PROGRAM, IN A SANDBOX (cutbox-rows.mjs): the forced cells as the released guide's own fill.sh prints them over the translation f2ff538c2456c120… (all of the seat's roots in one cut). By AI agents, Wed Nov 11 2026. No macro, syntax, notation, axiom, sorry.
-/
import Derived.Test.YtcakcfeipfjmpaaDoorChecked
import GoSem.Claim
import GoSem.ClaimJoined
import GoSem.ClaimMapViews
import Derived.JoinedTies
import Derived.KernelRfl
namespace Go.Proofs.YtcakcfeipfjmpaaDoor
/- THE CELL 'sum', in the pinned program and in every row, IS THE sha256 OF THE DUMP (.gsa) THAT YtcakcfeipfjmpaaDoorProg.lean LOADS. Nothing in Lean hashes anything: it is a label: what it is worth is what the hold of that sum in a sandbox is worth. -/
noncomputable def Tryd.pinned : Pinned := { name := "ytcakcfeipfjmpaadoor", sum := "f2ff538c2456c120076c4fd765d0d6895dbc65d3aa34d267a61865285d669ca8", checked := Tryd.checked }
namespace Rows
def none {H : Type} : Left H := { results := [], args := [] }

/- WHAT THE LISTED PACKAGE-LEVEL VARIABLES READ AS WHEN THE CALL BEGINS. Each datum BY PROGRAM (the guide's laid-datum.mjs) off the statement by which the dump's own 'gosem.cut.vars' lays the variable. In a bare row this is a premise. The card (YtcakcfeipfjmpaaDoorCards.lean) ties it to the program's text. -/
def laid_pinnace_bus_regions {H : Type} : DataW H := .agg [.agg [.lit (.int .u32 0), .lit (.int .u32 0), .lit (.int .i64 0)], .agg [.lit (.int .u32 33554432), .lit (.int .u32 65536), .lit (.int .i64 4)], .agg [.lit (.int .u32 201326592), .lit (.int .u32 4194304), .lit (.int .i64 4)], .agg [.lit (.int .u32 268435456), .lit (.int .u32 8), .lit (.int .i64 1)], .agg [.lit (.int .u32 268500992), .lit (.int .u32 256), .lit (.int .i64 4)], .agg [.lit (.int .u32 268566528), .lit (.int .u32 512), .lit (.int .i64 4)], .agg [.lit (.int .u32 268632064), .lit (.int .u32 512), .lit (.int .i64 4)], .agg [.lit (.int .u32 2147483648), .lit (.int .u32 0), .lit (.int .i64 0)]]
def laid_errors_errorType {H : Type} : DataW H := .iface "internal/reflectlite.rtype" (.agg [.ptr (.lit (.string [101, 114, 114, 111, 114]))])

/-- 'pinnacelaw12.DmaTicks': WHATEVER THE INPUT: true; the input reads as it did. -/
def dmaTicksSpec : ChangeSpec := { name := "dmaTicks", fn := fun _ => fun
  | [d1, d2, d3] => { results := [.lit (.bool true)], args := [d1, d2, d3] }
  | _ => none }
def dmaTicksRow : OpenClaim := { program := "ytcakcfeipfjmpaadoor", sum := "f2ff538c2456c120076c4fd765d0d6895dbc65d3aa34d267a61865285d669ca8", func := "pinnace/pinnacelaw12.DmaTicks", spec := "dmaTicks", inPlace := ["sync/atomic.AddInt64", "sync/atomic.LoadUint32", "(*internal/sync.Mutex).Lock", "internal/race.Disable", "sync/atomic.CompareAndSwapInt32", "internal/race.Enable", "internal/race.Acquire", "(*internal/sync.Mutex).lockSlow", "internal/sync.runtime_canSpin", "internal/sync.runtime_doSpin", "internal/sync.throw", "internal/sync.runtime_nanotime", "internal/sync.runtime_SemacquireMutex", "sync/atomic.AddInt32", "(*internal/sync.Mutex).Unlock", "internal/race.ReleaseMerge", "(*internal/sync.Mutex).unlockSlow", "internal/sync.fatal", "internal/sync.runtime_Semrelease", "sync/atomic.StoreUint32"], unfollowed := true, recurses := true, named := ["pinnace/bus.regions"], apart := false, laid := [("pinnace/bus.regions", laid_pinnace_bus_regions)] }
def DmaTicksSaid : Prop := dmaTicksRow.holds Tryd.pinned (OpenSpec.ofChange dmaTicksSpec)

/-- ITS FALSE NEIGHBOUR: 'it returns false'. Refute it at one input. -/
def dmaTicksWrong : ChangeSpec := { name := "dmaTicks", fn := fun _ => fun
  | [d1, d2, d3] => { results := [.lit (.bool false)], args := [d1, d2, d3] }
  | _ => none }
def DmaTicksWrongFalsely : Prop := dmaTicksRow.holds Tryd.pinned (OpenSpec.ofChange dmaTicksWrong)

/-- 'pinnacelaw12.DmaHolds': WHATEVER THE INPUT: true; the input reads as it did. -/
def dmaHoldsSpec : ChangeSpec := { name := "dmaHolds", fn := fun _ => fun
  | [d1, d2] => { results := [.lit (.bool true)], args := [d1, d2] }
  | _ => none }
def dmaHoldsRow : OpenClaim := { program := "ytcakcfeipfjmpaadoor", sum := "f2ff538c2456c120076c4fd765d0d6895dbc65d3aa34d267a61865285d669ca8", func := "pinnace/pinnacelaw12.DmaHolds", spec := "dmaHolds", inPlace := ["sync/atomic.AddInt64", "sync/atomic.LoadUint32", "(*internal/sync.Mutex).Lock", "internal/race.Disable", "sync/atomic.CompareAndSwapInt32", "internal/race.Enable", "internal/race.Acquire", "(*internal/sync.Mutex).lockSlow", "internal/sync.runtime_canSpin", "internal/sync.runtime_doSpin", "internal/sync.throw", "internal/sync.runtime_nanotime", "internal/sync.runtime_SemacquireMutex", "sync/atomic.AddInt32", "(*internal/sync.Mutex).Unlock", "internal/race.ReleaseMerge", "(*internal/sync.Mutex).unlockSlow", "internal/sync.fatal", "internal/sync.runtime_Semrelease", "sync/atomic.StoreUint32", "sync/atomic.LoadInt64", "sync/atomic.StoreInt64"], unfollowed := true, recurses := true, named := ["pinnace/bus.regions"], apart := false, laid := [("pinnace/bus.regions", laid_pinnace_bus_regions)] }
def DmaHoldsSaid : Prop := dmaHoldsRow.holds Tryd.pinned (OpenSpec.ofChange dmaHoldsSpec)

/-- ITS FALSE NEIGHBOUR: 'it returns false'. Refute it at one input. -/
def dmaHoldsWrong : ChangeSpec := { name := "dmaHolds", fn := fun _ => fun
  | [d1, d2] => { results := [.lit (.bool false)], args := [d1, d2] }
  | _ => none }
def DmaHoldsWrongFalsely : Prop := dmaHoldsRow.holds Tryd.pinned (OpenSpec.ofChange dmaHoldsWrong)

/-- 'pinnacelaw12.DmaStops': WHATEVER THE INPUT: true; the input reads as it did. -/
def dmaStopsSpec : ChangeSpec := { name := "dmaStops", fn := fun _ => fun
  | [d1, d2, d3] => { results := [.lit (.bool true)], args := [d1, d2, d3] }
  | _ => none }
def dmaStopsRow : OpenClaim := { program := "ytcakcfeipfjmpaadoor", sum := "f2ff538c2456c120076c4fd765d0d6895dbc65d3aa34d267a61865285d669ca8", func := "pinnace/pinnacelaw12.DmaStops", spec := "dmaStops", inPlace := ["sync/atomic.AddInt64", "sync/atomic.LoadUint32", "(*internal/sync.Mutex).Lock", "internal/race.Disable", "sync/atomic.CompareAndSwapInt32", "internal/race.Enable", "internal/race.Acquire", "(*internal/sync.Mutex).lockSlow", "internal/sync.runtime_canSpin", "internal/sync.runtime_doSpin", "internal/sync.throw", "internal/sync.runtime_nanotime", "internal/sync.runtime_SemacquireMutex", "sync/atomic.AddInt32", "(*internal/sync.Mutex).Unlock", "internal/race.ReleaseMerge", "(*internal/sync.Mutex).unlockSlow", "internal/sync.fatal", "internal/sync.runtime_Semrelease", "sync/atomic.StoreUint32", "sync/atomic.LoadInt64", "sync/atomic.StoreInt64"], unfollowed := true, recurses := true, named := ["pinnace/bus.regions"], apart := false, laid := [("pinnace/bus.regions", laid_pinnace_bus_regions)] }
def DmaStopsSaid : Prop := dmaStopsRow.holds Tryd.pinned (OpenSpec.ofChange dmaStopsSpec)

/-- ITS FALSE NEIGHBOUR: 'it returns false'. Refute it at one input. -/
def dmaStopsWrong : ChangeSpec := { name := "dmaStops", fn := fun _ => fun
  | [d1, d2, d3] => { results := [.lit (.bool false)], args := [d1, d2, d3] }
  | _ => none }
def DmaStopsWrongFalsely : Prop := dmaStopsRow.holds Tryd.pinned (OpenSpec.ofChange dmaStopsWrong)

/-- 'pinnacelaw13.RingOnce': WHATEVER THE INPUT: true; the input reads as it did. -/
def ringOnceSpec : ChangeSpec := { name := "ringOnce", fn := fun _ => fun
  | [d1, d2] => { results := [.lit (.bool true)], args := [d1, d2] }
  | _ => none }
def ringOnceRow : OpenClaim := { program := "ytcakcfeipfjmpaadoor", sum := "f2ff538c2456c120076c4fd765d0d6895dbc65d3aa34d267a61865285d669ca8", func := "pinnace/pinnacelaw13.RingOnce", spec := "ringOnce", inPlace := ["sync/atomic.AddInt64", "sync/atomic.LoadUint32", "(*internal/sync.Mutex).Lock", "internal/race.Disable", "sync/atomic.CompareAndSwapInt32", "internal/race.Enable", "internal/race.Acquire", "(*internal/sync.Mutex).lockSlow", "internal/sync.runtime_canSpin", "internal/sync.runtime_doSpin", "internal/sync.throw", "internal/sync.runtime_nanotime", "internal/sync.runtime_SemacquireMutex", "sync/atomic.AddInt32", "(*internal/sync.Mutex).Unlock", "internal/race.ReleaseMerge", "(*internal/sync.Mutex).unlockSlow", "internal/sync.fatal", "internal/sync.runtime_Semrelease", "sync/atomic.StoreUint32"], unfollowed := true, recurses := true, named := ["pinnace/bus.regions"], apart := false, laid := [("pinnace/bus.regions", laid_pinnace_bus_regions)] }
def RingOnceSaid : Prop := ringOnceRow.holds Tryd.pinned (OpenSpec.ofChange ringOnceSpec)

/-- ITS FALSE NEIGHBOUR: 'it returns false'. Refute it at one input. -/
def ringOnceWrong : ChangeSpec := { name := "ringOnce", fn := fun _ => fun
  | [d1, d2] => { results := [.lit (.bool false)], args := [d1, d2] }
  | _ => none }
def RingOnceWrongFalsely : Prop := ringOnceRow.holds Tryd.pinned (OpenSpec.ofChange ringOnceWrong)

/-- 'pinnacelaw06.MemNew': WHATEVER THE INPUT: true; the input reads as it did. -/
def memNewSpec : ChangeSpec := { name := "memNew", fn := fun _ => fun
  | [d] => { results := [.lit (.bool true)], args := [d] }
  | _ => none }
def memNewRow : OpenClaim := { program := "ytcakcfeipfjmpaadoor", sum := "f2ff538c2456c120076c4fd765d0d6895dbc65d3aa34d267a61865285d669ca8", func := "pinnace/pinnacelaw06.MemNew", spec := "memNew", inPlace := ["sync/atomic.LoadUint32", "(*internal/sync.Mutex).Lock", "internal/race.Disable", "sync/atomic.CompareAndSwapInt32", "internal/race.Enable", "internal/race.Acquire", "(*internal/sync.Mutex).lockSlow", "internal/sync.runtime_canSpin", "internal/sync.runtime_doSpin", "internal/sync.throw", "internal/sync.runtime_nanotime", "internal/sync.runtime_SemacquireMutex", "sync/atomic.AddInt32", "(*internal/sync.Mutex).Unlock", "internal/race.ReleaseMerge", "(*internal/sync.Mutex).unlockSlow", "internal/sync.fatal", "internal/sync.runtime_Semrelease", "sync/atomic.StoreUint32", "internal/reflectlite.ValueOf", "(internal/reflectlite.Value).Type", "(internal/reflectlite.Value).IsNil", "internal/reflectlite.TypeOf", "(internal/reflectlite.Value).Elem", "(internal/reflectlite.Value).Set", "sync/atomic.AddInt64", "sync/atomic.LoadInt64", "sync/atomic.StoreInt64"], unfollowed := true, recurses := true, named := ["errors.errorType"], apart := false, laid := [("errors.errorType", laid_errors_errorType)] }
def MemNewSaid : Prop := memNewRow.holds Tryd.pinned (OpenSpec.ofChange memNewSpec)

/-- ITS FALSE NEIGHBOUR: 'it returns false'. Refute it at one input. -/
def memNewWrong : ChangeSpec := { name := "memNew", fn := fun _ => fun
  | [d] => { results := [.lit (.bool false)], args := [d] }
  | _ => none }
def MemNewWrongFalsely : Prop := memNewRow.holds Tryd.pinned (OpenSpec.ofChange memNewWrong)

/-- 'pinnacelaw12.DmaRegs': WHATEVER THE INPUT: true; the input reads as it did. -/
def dmaRegsSpec : ChangeSpec := { name := "dmaRegs", fn := fun _ => fun
  | [d1, d2, d3] => { results := [.lit (.bool true)], args := [d1, d2, d3] }
  | _ => none }
def dmaRegsRow : OpenClaim := { program := "ytcakcfeipfjmpaadoor", sum := "f2ff538c2456c120076c4fd765d0d6895dbc65d3aa34d267a61865285d669ca8", func := "pinnace/pinnacelaw12.DmaRegs", spec := "dmaRegs", inPlace := ["internal/reflectlite.ValueOf", "(internal/reflectlite.Value).Type", "(internal/reflectlite.Value).IsNil", "internal/reflectlite.TypeOf", "(internal/reflectlite.Value).Elem", "(internal/reflectlite.Value).Set", "sync/atomic.AddInt64", "sync/atomic.LoadUint32", "(*internal/sync.Mutex).Lock", "internal/race.Disable", "sync/atomic.CompareAndSwapInt32", "internal/race.Enable", "internal/race.Acquire", "(*internal/sync.Mutex).lockSlow", "internal/sync.runtime_canSpin", "internal/sync.runtime_doSpin", "internal/sync.throw", "internal/sync.runtime_nanotime", "internal/sync.runtime_SemacquireMutex", "sync/atomic.AddInt32", "(*internal/sync.Mutex).Unlock", "internal/race.ReleaseMerge", "(*internal/sync.Mutex).unlockSlow", "internal/sync.fatal", "internal/sync.runtime_Semrelease", "sync/atomic.StoreUint32"], unfollowed := true, recurses := true, named := ["errors.errorType", "pinnace/bus.regions"], apart := false, laid := [("errors.errorType", laid_errors_errorType), ("pinnace/bus.regions", laid_pinnace_bus_regions)] }
def DmaRegsSaid : Prop := dmaRegsRow.holds Tryd.pinned (OpenSpec.ofChange dmaRegsSpec)

/-- ITS FALSE NEIGHBOUR: 'it returns false'. Refute it at one input. -/
def dmaRegsWrong : ChangeSpec := { name := "dmaRegs", fn := fun _ => fun
  | [d1, d2, d3] => { results := [.lit (.bool false)], args := [d1, d2, d3] }
  | _ => none }
def DmaRegsWrongFalsely : Prop := dmaRegsRow.holds Tryd.pinned (OpenSpec.ofChange dmaRegsWrong)

/-- 'pinnacelaw13.RingWalks': WHATEVER THE INPUT: true; the input reads as it did. -/
def ringWalksSpec : ChangeSpec := { name := "ringWalks", fn := fun _ => fun
  | [d1, d2, d3] => { results := [.lit (.bool true)], args := [d1, d2, d3] }
  | _ => none }
def ringWalksRow : OpenClaim := { program := "ytcakcfeipfjmpaadoor", sum := "f2ff538c2456c120076c4fd765d0d6895dbc65d3aa34d267a61865285d669ca8", func := "pinnace/pinnacelaw13.RingWalks", spec := "ringWalks", inPlace := ["sync/atomic.AddInt64", "sync/atomic.LoadUint32", "(*internal/sync.Mutex).Lock", "internal/race.Disable", "sync/atomic.CompareAndSwapInt32", "internal/race.Enable", "internal/race.Acquire", "(*internal/sync.Mutex).lockSlow", "internal/sync.runtime_canSpin", "internal/sync.runtime_doSpin", "internal/sync.throw", "internal/sync.runtime_nanotime", "internal/sync.runtime_SemacquireMutex", "sync/atomic.AddInt32", "(*internal/sync.Mutex).Unlock", "internal/race.ReleaseMerge", "(*internal/sync.Mutex).unlockSlow", "internal/sync.fatal", "internal/sync.runtime_Semrelease", "sync/atomic.StoreUint32", "internal/reflectlite.ValueOf", "(internal/reflectlite.Value).Type", "(internal/reflectlite.Value).IsNil", "internal/reflectlite.TypeOf", "(internal/reflectlite.Value).Elem", "(internal/reflectlite.Value).Set"], unfollowed := true, recurses := true, named := ["pinnace/bus.regions", "errors.errorType"], apart := false, laid := [("errors.errorType", laid_errors_errorType), ("pinnace/bus.regions", laid_pinnace_bus_regions)] }
def RingWalksSaid : Prop := ringWalksRow.holds Tryd.pinned (OpenSpec.ofChange ringWalksSpec)

/-- ITS FALSE NEIGHBOUR: 'it returns false'. Refute it at one input. -/
def ringWalksWrong : ChangeSpec := { name := "ringWalks", fn := fun _ => fun
  | [d1, d2, d3] => { results := [.lit (.bool false)], args := [d1, d2, d3] }
  | _ => none }
def RingWalksWrongFalsely : Prop := ringWalksRow.holds Tryd.pinned (OpenSpec.ofChange ringWalksWrong)

/- THE SECOND FORM. 'bulk': how many values and letters a reading holds, each counted each time it is reached (what is shared counts as often as it is met; a slice's spare places count too). A statement '..UptoSaid' is the law's where the arguments, and the package variables that the reading takes, are together of bulk at most 1048576: NARROWER than '..Said'. Prove '..Said' where nothing that the law and all that it calls make is longer than what came in: it says more and counts as full. Else prove '..UptoSaid'. A law counts once. -/
mutual
def uptoBulk {H : Type} : DataW H → Nat
  | .lit (.string bytes) => bytes.length + 1
  | .lit _ => 1
  | .nil => 1
  | .ptr d => uptoBulk d + 1
  | .slice elems spare => uptoBulkAll elems + uptoBulkAll spare + 1
  | .agg parts => uptoBulkAll parts + 1
  | .iface _ d => uptoBulk d + 1
  | .map entries => uptoBulkEntries entries + 1
  | .held _ => 1
def uptoBulkAll {H : Type} : List (DataW H) → Nat
  | [] => 0
  | d :: r => uptoBulk d + uptoBulkAll r
def uptoBulkEntries {H : Type} : List (Lit × DataW H) → Nat
  | [] => 0
  | x :: r => uptoBulkEntry x + uptoBulkEntries r
def uptoBulkEntry {H : Type} : Lit × DataW H → Nat
  | (.string bytes, d) => bytes.length + uptoBulk d + 1
  | (_, d) => uptoBulk d + 1
 end
def uptoSmall : (H : Type) → List (DataW H) → Bool := fun _ ds => decide (uptoBulkAll ds ≤ 1048576)
def OpenSpec.upto (s : _root_.Go.ChangeSpec) : _root_.Go.OpenSpec := { _root_.Go.OpenSpec.ofChange s with cond := some uptoSmall }

/-- 'pinnacelaw12.DmaTicks', WHERE WHAT IT READS IS OF BULK AT MOST 1048576: true; the input reads as it did. -/
def dmaTicksUptoRow : OpenClaim := { program := "ytcakcfeipfjmpaadoor", sum := "f2ff538c2456c120076c4fd765d0d6895dbc65d3aa34d267a61865285d669ca8", func := "pinnace/pinnacelaw12.DmaTicks", spec := "dmaTicks", inPlace := ["sync/atomic.AddInt64", "sync/atomic.LoadUint32", "(*internal/sync.Mutex).Lock", "internal/race.Disable", "sync/atomic.CompareAndSwapInt32", "internal/race.Enable", "internal/race.Acquire", "(*internal/sync.Mutex).lockSlow", "internal/sync.runtime_canSpin", "internal/sync.runtime_doSpin", "internal/sync.throw", "internal/sync.runtime_nanotime", "internal/sync.runtime_SemacquireMutex", "sync/atomic.AddInt32", "(*internal/sync.Mutex).Unlock", "internal/race.ReleaseMerge", "(*internal/sync.Mutex).unlockSlow", "internal/sync.fatal", "internal/sync.runtime_Semrelease", "sync/atomic.StoreUint32"], unfollowed := true, recurses := true, named := ["pinnace/bus.regions"], apart := false, laid := [("pinnace/bus.regions", laid_pinnace_bus_regions)], narrowed := true }
def DmaTicksUptoSaid : Prop := dmaTicksUptoRow.holds Tryd.pinned (OpenSpec.upto dmaTicksSpec)

/-- 'pinnacelaw12.DmaHolds', WHERE WHAT IT READS IS OF BULK AT MOST 1048576: true; the input reads as it did. -/
def dmaHoldsUptoRow : OpenClaim := { program := "ytcakcfeipfjmpaadoor", sum := "f2ff538c2456c120076c4fd765d0d6895dbc65d3aa34d267a61865285d669ca8", func := "pinnace/pinnacelaw12.DmaHolds", spec := "dmaHolds", inPlace := ["sync/atomic.AddInt64", "sync/atomic.LoadUint32", "(*internal/sync.Mutex).Lock", "internal/race.Disable", "sync/atomic.CompareAndSwapInt32", "internal/race.Enable", "internal/race.Acquire", "(*internal/sync.Mutex).lockSlow", "internal/sync.runtime_canSpin", "internal/sync.runtime_doSpin", "internal/sync.throw", "internal/sync.runtime_nanotime", "internal/sync.runtime_SemacquireMutex", "sync/atomic.AddInt32", "(*internal/sync.Mutex).Unlock", "internal/race.ReleaseMerge", "(*internal/sync.Mutex).unlockSlow", "internal/sync.fatal", "internal/sync.runtime_Semrelease", "sync/atomic.StoreUint32", "sync/atomic.LoadInt64", "sync/atomic.StoreInt64"], unfollowed := true, recurses := true, named := ["pinnace/bus.regions"], apart := false, laid := [("pinnace/bus.regions", laid_pinnace_bus_regions)], narrowed := true }
def DmaHoldsUptoSaid : Prop := dmaHoldsUptoRow.holds Tryd.pinned (OpenSpec.upto dmaHoldsSpec)

/-- 'pinnacelaw12.DmaStops', WHERE WHAT IT READS IS OF BULK AT MOST 1048576: true; the input reads as it did. -/
def dmaStopsUptoRow : OpenClaim := { program := "ytcakcfeipfjmpaadoor", sum := "f2ff538c2456c120076c4fd765d0d6895dbc65d3aa34d267a61865285d669ca8", func := "pinnace/pinnacelaw12.DmaStops", spec := "dmaStops", inPlace := ["sync/atomic.AddInt64", "sync/atomic.LoadUint32", "(*internal/sync.Mutex).Lock", "internal/race.Disable", "sync/atomic.CompareAndSwapInt32", "internal/race.Enable", "internal/race.Acquire", "(*internal/sync.Mutex).lockSlow", "internal/sync.runtime_canSpin", "internal/sync.runtime_doSpin", "internal/sync.throw", "internal/sync.runtime_nanotime", "internal/sync.runtime_SemacquireMutex", "sync/atomic.AddInt32", "(*internal/sync.Mutex).Unlock", "internal/race.ReleaseMerge", "(*internal/sync.Mutex).unlockSlow", "internal/sync.fatal", "internal/sync.runtime_Semrelease", "sync/atomic.StoreUint32", "sync/atomic.LoadInt64", "sync/atomic.StoreInt64"], unfollowed := true, recurses := true, named := ["pinnace/bus.regions"], apart := false, laid := [("pinnace/bus.regions", laid_pinnace_bus_regions)], narrowed := true }
def DmaStopsUptoSaid : Prop := dmaStopsUptoRow.holds Tryd.pinned (OpenSpec.upto dmaStopsSpec)

/-- 'pinnacelaw13.RingOnce', WHERE WHAT IT READS IS OF BULK AT MOST 1048576: true; the input reads as it did. -/
def ringOnceUptoRow : OpenClaim := { program := "ytcakcfeipfjmpaadoor", sum := "f2ff538c2456c120076c4fd765d0d6895dbc65d3aa34d267a61865285d669ca8", func := "pinnace/pinnacelaw13.RingOnce", spec := "ringOnce", inPlace := ["sync/atomic.AddInt64", "sync/atomic.LoadUint32", "(*internal/sync.Mutex).Lock", "internal/race.Disable", "sync/atomic.CompareAndSwapInt32", "internal/race.Enable", "internal/race.Acquire", "(*internal/sync.Mutex).lockSlow", "internal/sync.runtime_canSpin", "internal/sync.runtime_doSpin", "internal/sync.throw", "internal/sync.runtime_nanotime", "internal/sync.runtime_SemacquireMutex", "sync/atomic.AddInt32", "(*internal/sync.Mutex).Unlock", "internal/race.ReleaseMerge", "(*internal/sync.Mutex).unlockSlow", "internal/sync.fatal", "internal/sync.runtime_Semrelease", "sync/atomic.StoreUint32"], unfollowed := true, recurses := true, named := ["pinnace/bus.regions"], apart := false, laid := [("pinnace/bus.regions", laid_pinnace_bus_regions)], narrowed := true }
def RingOnceUptoSaid : Prop := ringOnceUptoRow.holds Tryd.pinned (OpenSpec.upto ringOnceSpec)

/-- 'pinnacelaw06.MemNew', WHERE WHAT IT READS IS OF BULK AT MOST 1048576: true; the input reads as it did. -/
def memNewUptoRow : OpenClaim := { program := "ytcakcfeipfjmpaadoor", sum := "f2ff538c2456c120076c4fd765d0d6895dbc65d3aa34d267a61865285d669ca8", func := "pinnace/pinnacelaw06.MemNew", spec := "memNew", inPlace := ["sync/atomic.LoadUint32", "(*internal/sync.Mutex).Lock", "internal/race.Disable", "sync/atomic.CompareAndSwapInt32", "internal/race.Enable", "internal/race.Acquire", "(*internal/sync.Mutex).lockSlow", "internal/sync.runtime_canSpin", "internal/sync.runtime_doSpin", "internal/sync.throw", "internal/sync.runtime_nanotime", "internal/sync.runtime_SemacquireMutex", "sync/atomic.AddInt32", "(*internal/sync.Mutex).Unlock", "internal/race.ReleaseMerge", "(*internal/sync.Mutex).unlockSlow", "internal/sync.fatal", "internal/sync.runtime_Semrelease", "sync/atomic.StoreUint32", "internal/reflectlite.ValueOf", "(internal/reflectlite.Value).Type", "(internal/reflectlite.Value).IsNil", "internal/reflectlite.TypeOf", "(internal/reflectlite.Value).Elem", "(internal/reflectlite.Value).Set", "sync/atomic.AddInt64", "sync/atomic.LoadInt64", "sync/atomic.StoreInt64"], unfollowed := true, recurses := true, named := ["errors.errorType"], apart := false, laid := [("errors.errorType", laid_errors_errorType)], narrowed := true }
def MemNewUptoSaid : Prop := memNewUptoRow.holds Tryd.pinned (OpenSpec.upto memNewSpec)

/-- 'pinnacelaw12.DmaRegs', WHERE WHAT IT READS IS OF BULK AT MOST 1048576: true; the input reads as it did. -/
def dmaRegsUptoRow : OpenClaim := { program := "ytcakcfeipfjmpaadoor", sum := "f2ff538c2456c120076c4fd765d0d6895dbc65d3aa34d267a61865285d669ca8", func := "pinnace/pinnacelaw12.DmaRegs", spec := "dmaRegs", inPlace := ["internal/reflectlite.ValueOf", "(internal/reflectlite.Value).Type", "(internal/reflectlite.Value).IsNil", "internal/reflectlite.TypeOf", "(internal/reflectlite.Value).Elem", "(internal/reflectlite.Value).Set", "sync/atomic.AddInt64", "sync/atomic.LoadUint32", "(*internal/sync.Mutex).Lock", "internal/race.Disable", "sync/atomic.CompareAndSwapInt32", "internal/race.Enable", "internal/race.Acquire", "(*internal/sync.Mutex).lockSlow", "internal/sync.runtime_canSpin", "internal/sync.runtime_doSpin", "internal/sync.throw", "internal/sync.runtime_nanotime", "internal/sync.runtime_SemacquireMutex", "sync/atomic.AddInt32", "(*internal/sync.Mutex).Unlock", "internal/race.ReleaseMerge", "(*internal/sync.Mutex).unlockSlow", "internal/sync.fatal", "internal/sync.runtime_Semrelease", "sync/atomic.StoreUint32"], unfollowed := true, recurses := true, named := ["errors.errorType", "pinnace/bus.regions"], apart := false, laid := [("errors.errorType", laid_errors_errorType), ("pinnace/bus.regions", laid_pinnace_bus_regions)], narrowed := true }
def DmaRegsUptoSaid : Prop := dmaRegsUptoRow.holds Tryd.pinned (OpenSpec.upto dmaRegsSpec)

/-- 'pinnacelaw13.RingWalks', WHERE WHAT IT READS IS OF BULK AT MOST 1048576: true; the input reads as it did. -/
def ringWalksUptoRow : OpenClaim := { program := "ytcakcfeipfjmpaadoor", sum := "f2ff538c2456c120076c4fd765d0d6895dbc65d3aa34d267a61865285d669ca8", func := "pinnace/pinnacelaw13.RingWalks", spec := "ringWalks", inPlace := ["sync/atomic.AddInt64", "sync/atomic.LoadUint32", "(*internal/sync.Mutex).Lock", "internal/race.Disable", "sync/atomic.CompareAndSwapInt32", "internal/race.Enable", "internal/race.Acquire", "(*internal/sync.Mutex).lockSlow", "internal/sync.runtime_canSpin", "internal/sync.runtime_doSpin", "internal/sync.throw", "internal/sync.runtime_nanotime", "internal/sync.runtime_SemacquireMutex", "sync/atomic.AddInt32", "(*internal/sync.Mutex).Unlock", "internal/race.ReleaseMerge", "(*internal/sync.Mutex).unlockSlow", "internal/sync.fatal", "internal/sync.runtime_Semrelease", "sync/atomic.StoreUint32", "internal/reflectlite.ValueOf", "(internal/reflectlite.Value).Type", "(internal/reflectlite.Value).IsNil", "internal/reflectlite.TypeOf", "(internal/reflectlite.Value).Elem", "(internal/reflectlite.Value).Set"], unfollowed := true, recurses := true, named := ["pinnace/bus.regions", "errors.errorType"], apart := false, laid := [("errors.errorType", laid_errors_errorType), ("pinnace/bus.regions", laid_pinnace_bus_regions)], narrowed := true }
def RingWalksUptoSaid : Prop := ringWalksUptoRow.holds Tryd.pinned (OpenSpec.upto ringWalksSpec)

end Rows
end Go.Proofs.YtcakcfeipfjmpaaDoor
