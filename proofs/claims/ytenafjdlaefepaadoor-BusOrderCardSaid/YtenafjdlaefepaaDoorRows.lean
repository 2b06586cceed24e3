/-
  NARROWER THAN 'FOR EVERY INPUT', by the rows' own cells (each row's printed sentence says how): PlicLevels: laid · PlicBest: laid · PlicOnce: laid · BusFinds: laid · BusBases: laid · BusApart: laid · PlicWrites: laid · BusQueues: laid · BusOrder: laid · VirtioReads: laid.
  DERIVED. THE GIVEN ROWS OF THIS SEAT. 10 by the template 'for every input the law returns true; each argument reads behind the call as it read before'; 0 by the template 'total and deterministic' (their statements: YtenafjdlaefepaaDoorTotals.lean).
  GIVEN WITH THE SEED: the statements are not yours to turn. If you find one false, say at which input.
  Laid BY PROGRAM, IN A SANDBOX (cutbox-rows.mjs): the forced cells as the released guide's own fill.sh prints them over the translation 08e93f85159c697d… (all of the seat's roots in one cut). By AI agents, Wed Nov 11 2026. No macro, syntax, notation, axiom, sorry.
-/
import Derived.Test.YtenafjdlaefepaaDoorChecked
import GoSem.Claim
import GoSem.ClaimJoined
import GoSem.ClaimMapViews
import Derived.JoinedTies
import Derived.KernelRfl
namespace Go.Proofs.YtenafjdlaefepaaDoor
/- THE CELL 'sum', in the pinned program and in every row, IS THE sha256 OF THE DUMP (.gsa) THAT YtenafjdlaefepaaDoorProg.lean LOADS. Nothing in Lean hashes anything: it is a label: what it is worth is what the hold of that sum in a sandbox is worth. -/
noncomputable def Tryd.pinned : Pinned := { name := "ytenafjdlaefepaadoor", sum := "08e93f85159c697d84a32b6ecf8cd63cebfdc4a8c8cd374b5b8ecff0f19b5502", checked := Tryd.checked }
namespace Rows
def none {H : Type} : Left H := { results := [], args := [] }

/- WHAT THE LISTED PACKAGE-LEVEL VARIABLES READ AS WHEN THE CALL BEGINS. Each datum BY PROGRAM (the guide's laid-datum.mjs) off the statement by which the dump's own 'gosem.cut.vars' lays the variable. In a bare row this is a premise. The card (YtenafjdlaefepaaDoorCards.lean) ties it to the program's text. -/
def laid_math_bits_deBruijn32tab {H : Type} : DataW H := .agg [.lit (.int .u8 0), .lit (.int .u8 1), .lit (.int .u8 28), .lit (.int .u8 2), .lit (.int .u8 29), .lit (.int .u8 14), .lit (.int .u8 24), .lit (.int .u8 3), .lit (.int .u8 30), .lit (.int .u8 22), .lit (.int .u8 20), .lit (.int .u8 15), .lit (.int .u8 25), .lit (.int .u8 17), .lit (.int .u8 4), .lit (.int .u8 8), .lit (.int .u8 31), .lit (.int .u8 27), .lit (.int .u8 13), .lit (.int .u8 23), .lit (.int .u8 21), .lit (.int .u8 19), .lit (.int .u8 16), .lit (.int .u8 7), .lit (.int .u8 26), .lit (.int .u8 12), .lit (.int .u8 18), .lit (.int .u8 6), .lit (.int .u8 11), .lit (.int .u8 5), .lit (.int .u8 10), .lit (.int .u8 9)]
def laid_errors_errorType {H : Type} : DataW H := .iface "internal/reflectlite.rtype" (.agg [.ptr (.lit (.string [101, 114, 114, 111, 114]))])
def laid_pinnace_bus_regions {H : Type} : DataW H := .agg [.agg [.lit (.int .u32 0), .lit (.int .u32 0), .lit (.int .i64 0)], .agg [.lit (.int .u32 33554432), .lit (.int .u32 65536), .lit (.int .i64 4)], .agg [.lit (.int .u32 201326592), .lit (.int .u32 4194304), .lit (.int .i64 4)], .agg [.lit (.int .u32 268435456), .lit (.int .u32 8), .lit (.int .i64 1)], .agg [.lit (.int .u32 268500992), .lit (.int .u32 256), .lit (.int .i64 4)], .agg [.lit (.int .u32 268566528), .lit (.int .u32 512), .lit (.int .i64 4)], .agg [.lit (.int .u32 268632064), .lit (.int .u32 512), .lit (.int .i64 4)], .agg [.lit (.int .u32 2147483648), .lit (.int .u32 0), .lit (.int .i64 0)]]

/-- 'pinnacelaw09.PlicLevels': WHATEVER THE INPUT: true; the input reads as it did. -/
def plicLevelsSpec : ChangeSpec := { name := "plicLevels", fn := fun _ => fun
  | [d1, d2] => { results := [.lit (.bool true)], args := [d1, d2] }
  | _ => none }
def plicLevelsRow : OpenClaim := { program := "ytenafjdlaefepaadoor", sum := "08e93f85159c697d84a32b6ecf8cd63cebfdc4a8c8cd374b5b8ecff0f19b5502", func := "pinnace/pinnacelaw09.PlicLevels", spec := "plicLevels", named := ["math/bits.deBruijn32tab"], apart := false, laid := [("math/bits.deBruijn32tab", laid_math_bits_deBruijn32tab)] }
def PlicLevelsSaid : Prop := plicLevelsRow.holds Tryd.pinned (OpenSpec.ofChange plicLevelsSpec)

/-- ITS FALSE NEIGHBOUR: 'it returns false'. Refute it at one input. -/
def plicLevelsWrong : ChangeSpec := { name := "plicLevels", fn := fun _ => fun
  | [d1, d2] => { results := [.lit (.bool false)], args := [d1, d2] }
  | _ => none }
def PlicLevelsWrongFalsely : Prop := plicLevelsRow.holds Tryd.pinned (OpenSpec.ofChange plicLevelsWrong)

/-- 'pinnacelaw09.PlicBest': WHATEVER THE INPUT: true; the input reads as it did. -/
def plicBestSpec : ChangeSpec := { name := "plicBest", fn := fun _ => fun
  | [d] => { results := [.lit (.bool true)], args := [d] }
  | _ => none }
def plicBestRow : OpenClaim := { program := "ytenafjdlaefepaadoor", sum := "08e93f85159c697d84a32b6ecf8cd63cebfdc4a8c8cd374b5b8ecff0f19b5502", func := "pinnace/pinnacelaw09.PlicBest", spec := "plicBest", named := ["math/bits.deBruijn32tab"], apart := false, laid := [("math/bits.deBruijn32tab", laid_math_bits_deBruijn32tab)] }
def PlicBestSaid : Prop := plicBestRow.holds Tryd.pinned (OpenSpec.ofChange plicBestSpec)

/-- ITS FALSE NEIGHBOUR: 'it returns false'. Refute it at one input. -/
def plicBestWrong : ChangeSpec := { name := "plicBest", fn := fun _ => fun
  | [d] => { results := [.lit (.bool false)], args := [d] }
  | _ => none }
def PlicBestWrongFalsely : Prop := plicBestRow.holds Tryd.pinned (OpenSpec.ofChange plicBestWrong)

/-- 'pinnacelaw09.PlicOnce': WHATEVER THE INPUT: true; the input reads as it did. -/
def plicOnceSpec : ChangeSpec := { name := "plicOnce", fn := fun _ => fun
  | [d1, d2] => { results := [.lit (.bool true)], args := [d1, d2] }
  | _ => none }
def plicOnceRow : OpenClaim := { program := "ytenafjdlaefepaadoor", sum := "08e93f85159c697d84a32b6ecf8cd63cebfdc4a8c8cd374b5b8ecff0f19b5502", func := "pinnace/pinnacelaw09.PlicOnce", spec := "plicOnce", unfollowed := true, recurses := true, named := ["math/bits.deBruijn32tab"], apart := false, laid := [("math/bits.deBruijn32tab", laid_math_bits_deBruijn32tab)] }
def PlicOnceSaid : Prop := plicOnceRow.holds Tryd.pinned (OpenSpec.ofChange plicOnceSpec)

/-- ITS FALSE NEIGHBOUR: 'it returns false'. Refute it at one input. -/
def plicOnceWrong : ChangeSpec := { name := "plicOnce", fn := fun _ => fun
  | [d1, d2] => { results := [.lit (.bool false)], args := [d1, d2] }
  | _ => none }
def PlicOnceWrongFalsely : Prop := plicOnceRow.holds Tryd.pinned (OpenSpec.ofChange plicOnceWrong)

/-- 'pinnacelaw07.BusFinds': WHATEVER THE INPUT: true; the input reads as it did. -/
def busFindsSpec : ChangeSpec := { name := "busFinds", fn := fun _ => fun
  | [d1, d2, d3] => { results := [.lit (.bool true)], args := [d1, d2, d3] }
  | _ => none }
def busFindsRow : OpenClaim := { program := "ytenafjdlaefepaadoor", sum := "08e93f85159c697d84a32b6ecf8cd63cebfdc4a8c8cd374b5b8ecff0f19b5502", func := "pinnace/pinnacelaw07.BusFinds", spec := "busFinds", inPlace := ["internal/reflectlite.ValueOf", "(internal/reflectlite.Value).Type", "(internal/reflectlite.Value).IsNil", "internal/reflectlite.TypeOf", "(internal/reflectlite.Value).Elem", "(internal/reflectlite.Value).Set"], unfollowed := true, recurses := true, named := ["pinnace/bus.regions", "errors.errorType"], apart := false, laid := [("errors.errorType", laid_errors_errorType), ("pinnace/bus.regions", laid_pinnace_bus_regions)] }
def BusFindsSaid : Prop := busFindsRow.holds Tryd.pinned (OpenSpec.ofChange busFindsSpec)

/-- ITS FALSE NEIGHBOUR: 'it returns false'. Refute it at one input. -/
def busFindsWrong : ChangeSpec := { name := "busFinds", fn := fun _ => fun
  | [d1, d2, d3] => { results := [.lit (.bool false)], args := [d1, d2, d3] }
  | _ => none }
def BusFindsWrongFalsely : Prop := busFindsRow.holds Tryd.pinned (OpenSpec.ofChange busFindsWrong)

/-- 'pinnacelaw07.BusBases': WHATEVER THE INPUT: true; the input reads as it did. -/
def busBasesSpec : ChangeSpec := { name := "busBases", fn := fun _ => fun
  | [d1, d2] => { results := [.lit (.bool true)], args := [d1, d2] }
  | _ => none }
def busBasesRow : OpenClaim := { program := "ytenafjdlaefepaadoor", sum := "08e93f85159c697d84a32b6ecf8cd63cebfdc4a8c8cd374b5b8ecff0f19b5502", func := "pinnace/pinnacelaw07.BusBases", spec := "busBases", inPlace := ["internal/reflectlite.ValueOf", "(internal/reflectlite.Value).Type", "(internal/reflectlite.Value).IsNil", "internal/reflectlite.TypeOf", "(internal/reflectlite.Value).Elem", "(internal/reflectlite.Value).Set"], unfollowed := true, recurses := true, named := ["pinnace/bus.regions", "errors.errorType"], apart := false, laid := [("errors.errorType", laid_errors_errorType), ("pinnace/bus.regions", laid_pinnace_bus_regions)] }
def BusBasesSaid : Prop := busBasesRow.holds Tryd.pinned (OpenSpec.ofChange busBasesSpec)

/-- ITS FALSE NEIGHBOUR: 'it returns false'. Refute it at one input. -/
def busBasesWrong : ChangeSpec := { name := "busBases", fn := fun _ => fun
  | [d1, d2] => { results := [.lit (.bool false)], args := [d1, d2] }
  | _ => none }
def BusBasesWrongFalsely : Prop := busBasesRow.holds Tryd.pinned (OpenSpec.ofChange busBasesWrong)

/-- 'pinnacelaw07.BusApart': WHATEVER THE INPUT: true; the input reads as it did. -/
def busApartSpec : ChangeSpec := { name := "busApart", fn := fun _ => fun
  | [d1, d2, d3] => { results := [.lit (.bool true)], args := [d1, d2, d3] }
  | _ => none }
def busApartRow : OpenClaim := { program := "ytenafjdlaefepaadoor", sum := "08e93f85159c697d84a32b6ecf8cd63cebfdc4a8c8cd374b5b8ecff0f19b5502", func := "pinnace/pinnacelaw07.BusApart", spec := "busApart", inPlace := ["internal/reflectlite.ValueOf", "(internal/reflectlite.Value).Type", "(internal/reflectlite.Value).IsNil", "internal/reflectlite.TypeOf", "(internal/reflectlite.Value).Elem", "(internal/reflectlite.Value).Set"], unfollowed := true, recurses := true, named := ["pinnace/bus.regions", "errors.errorType"], apart := false, laid := [("errors.errorType", laid_errors_errorType), ("pinnace/bus.regions", laid_pinnace_bus_regions)] }
def BusApartSaid : Prop := busApartRow.holds Tryd.pinned (OpenSpec.ofChange busApartSpec)

/-- ITS FALSE NEIGHBOUR: 'it returns false'. Refute it at one input. -/
def busApartWrong : ChangeSpec := { name := "busApart", fn := fun _ => fun
  | [d1, d2, d3] => { results := [.lit (.bool false)], args := [d1, d2, d3] }
  | _ => none }
def BusApartWrongFalsely : Prop := busApartRow.holds Tryd.pinned (OpenSpec.ofChange busApartWrong)

/-- 'pinnacelaw09.PlicWrites': WHATEVER THE INPUT: true; the input reads as it did. -/
def plicWritesSpec : ChangeSpec := { name := "plicWrites", fn := fun _ => fun
  | [d1, d2, d3] => { results := [.lit (.bool true)], args := [d1, d2, d3] }
  | _ => none }
def plicWritesRow : OpenClaim := { program := "ytenafjdlaefepaadoor", sum := "08e93f85159c697d84a32b6ecf8cd63cebfdc4a8c8cd374b5b8ecff0f19b5502", func := "pinnace/pinnacelaw09.PlicWrites", spec := "plicWrites", inPlace := ["internal/reflectlite.ValueOf", "(internal/reflectlite.Value).Type", "(internal/reflectlite.Value).IsNil", "internal/reflectlite.TypeOf", "(internal/reflectlite.Value).Elem", "(internal/reflectlite.Value).Set"], unfollowed := true, recurses := true, named := ["errors.errorType", "math/bits.deBruijn32tab"], apart := false, laid := [("math/bits.deBruijn32tab", laid_math_bits_deBruijn32tab), ("errors.errorType", laid_errors_errorType)] }
def PlicWritesSaid : Prop := plicWritesRow.holds Tryd.pinned (OpenSpec.ofChange plicWritesSpec)

/-- ITS FALSE NEIGHBOUR: 'it returns false'. Refute it at one input. -/
def plicWritesWrong : ChangeSpec := { name := "plicWrites", fn := fun _ => fun
  | [d1, d2, d3] => { results := [.lit (.bool false)], args := [d1, d2, d3] }
  | _ => none }
def PlicWritesWrongFalsely : Prop := plicWritesRow.holds Tryd.pinned (OpenSpec.ofChange plicWritesWrong)

/-- 'pinnacelaw07.BusQueues': WHATEVER THE INPUT: true; the input reads as it did. -/
def busQueuesSpec : ChangeSpec := { name := "busQueues", fn := fun _ => fun
  | [d1, d2] => { results := [.lit (.bool true)], args := [d1, d2] }
  | _ => none }
def busQueuesRow : OpenClaim := { program := "ytenafjdlaefepaadoor", sum := "08e93f85159c697d84a32b6ecf8cd63cebfdc4a8c8cd374b5b8ecff0f19b5502", func := "pinnace/pinnacelaw07.BusQueues", spec := "busQueues", inPlace := ["internal/reflectlite.ValueOf", "(internal/reflectlite.Value).Type", "(internal/reflectlite.Value).IsNil", "internal/reflectlite.TypeOf", "(internal/reflectlite.Value).Elem", "(internal/reflectlite.Value).Set"], unfollowed := true, recurses := true, named := ["pinnace/bus.regions", "errors.errorType"], apart := false, laid := [("errors.errorType", laid_errors_errorType), ("pinnace/bus.regions", laid_pinnace_bus_regions)] }
def BusQueuesSaid : Prop := busQueuesRow.holds Tryd.pinned (OpenSpec.ofChange busQueuesSpec)

/-- ITS FALSE NEIGHBOUR: 'it returns false'. Refute it at one input. -/
def busQueuesWrong : ChangeSpec := { name := "busQueues", fn := fun _ => fun
  | [d1, d2] => { results := [.lit (.bool false)], args := [d1, d2] }
  | _ => none }
def BusQueuesWrongFalsely : Prop := busQueuesRow.holds Tryd.pinned (OpenSpec.ofChange busQueuesWrong)

/-- 'pinnacelaw07.BusOrder': WHATEVER THE INPUT: true; the input reads as it did. -/
def busOrderSpec : ChangeSpec := { name := "busOrder", fn := fun _ => fun
  | [d1, d2] => { results := [.lit (.bool true)], args := [d1, d2] }
  | _ => none }
def busOrderRow : OpenClaim := { program := "ytenafjdlaefepaadoor", sum := "08e93f85159c697d84a32b6ecf8cd63cebfdc4a8c8cd374b5b8ecff0f19b5502", func := "pinnace/pinnacelaw07.BusOrder", spec := "busOrder", inPlace := ["internal/reflectlite.ValueOf", "(internal/reflectlite.Value).Type", "(internal/reflectlite.Value).IsNil", "internal/reflectlite.TypeOf", "(internal/reflectlite.Value).Elem", "(internal/reflectlite.Value).Set"], unfollowed := true, recurses := true, named := ["pinnace/bus.regions", "errors.errorType"], apart := false, laid := [("errors.errorType", laid_errors_errorType), ("pinnace/bus.regions", laid_pinnace_bus_regions)] }
def BusOrderSaid : Prop := busOrderRow.holds Tryd.pinned (OpenSpec.ofChange busOrderSpec)

/-- ITS FALSE NEIGHBOUR: 'it returns false'. Refute it at one input. -/
def busOrderWrong : ChangeSpec := { name := "busOrder", fn := fun _ => fun
  | [d1, d2] => { results := [.lit (.bool false)], args := [d1, d2] }
  | _ => none }
def BusOrderWrongFalsely : Prop := busOrderRow.holds Tryd.pinned (OpenSpec.ofChange busOrderWrong)

/-- 'pinnacelaw14.VirtioReads': WHATEVER THE INPUT: true; the input reads as it did. -/
def virtioReadsSpec : ChangeSpec := { name := "virtioReads", fn := fun _ => fun
  | [d1, d2, d3] => { results := [.lit (.bool true)], args := [d1, d2, d3] }
  | _ => none }
def virtioReadsRow : OpenClaim := { program := "ytenafjdlaefepaadoor", sum := "08e93f85159c697d84a32b6ecf8cd63cebfdc4a8c8cd374b5b8ecff0f19b5502", func := "pinnace/pinnacelaw14.VirtioReads", spec := "virtioReads", inPlace := ["internal/reflectlite.ValueOf", "(internal/reflectlite.Value).Type", "(internal/reflectlite.Value).IsNil", "internal/reflectlite.TypeOf", "(internal/reflectlite.Value).Elem", "(internal/reflectlite.Value).Set"], unfollowed := true, recurses := true, named := ["errors.errorType"], apart := false, laid := [("errors.errorType", laid_errors_errorType)] }
def VirtioReadsSaid : Prop := virtioReadsRow.holds Tryd.pinned (OpenSpec.ofChange virtioReadsSpec)

/-- ITS FALSE NEIGHBOUR: 'it returns false'. Refute it at one input. -/
def virtioReadsWrong : ChangeSpec := { name := "virtioReads", fn := fun _ => fun
  | [d1, d2, d3] => { results := [.lit (.bool false)], args := [d1, d2, d3] }
  | _ => none }
def VirtioReadsWrongFalsely : Prop := virtioReadsRow.holds Tryd.pinned (OpenSpec.ofChange virtioReadsWrong)

/- THE SECOND FORM. 'bulk': how many values and letters a reading holds, each counted each time it is reached (what is shared counts as often as it is met; a slice's spare places count too). A statement '..UptoSaid' is the law's where the arguments, and the package variables that the reading takes, are together of bulk at most 1048576: NARROWER than '..Said'. Prove '..Said' where nothing that the law and all that it calls make is longer than what came in: it says more and counts as full. Else prove '..UptoSaid'. A law counts once. -/
mutual
def uptoBulk {H : Type} : DataW H → Nat
  | .lit (.string bytes) => bytes.length + 1
  | .lit _ => 1
  | .nil => 1
  | .ptr d => uptoBulk d + 1
  | .slice elems spare => uptoBulkAll elems + uptoBulkAll spare + 1
  | .agg parts => uptoBulkAll parts + 1
  | .iface _ d => uptoBulk d + 1
  | .map entries => uptoBulkEntries entries + 1
  | .held _ => 1
def uptoBulkAll {H : Type} : List (DataW H) → Nat
  | [] => 0
  | d :: r => uptoBulk d + uptoBulkAll r
def uptoBulkEntries {H : Type} : List (Lit × DataW H) → Nat
  | [] => 0
  | x :: r => uptoBulkEntry x + uptoBulkEntries r
def uptoBulkEntry {H : Type} : Lit × DataW H → Nat
  | (.string bytes, d) => bytes.length + uptoBulk d + 1
  | (_, d) => uptoBulk d + 1
 end
def uptoSmall : (H : Type) → List (DataW H) → Bool := fun _ ds => decide (uptoBulkAll ds ≤ 1048576)
def OpenSpec.upto (s : _root_.Go.ChangeSpec) : _root_.Go.OpenSpec := { _root_.Go.OpenSpec.ofChange s with cond := some uptoSmall }

/-- 'pinnacelaw09.PlicLevels', WHERE WHAT IT READS IS OF BULK AT MOST 1048576: true; the input reads as it did. -/
def plicLevelsUptoRow : OpenClaim := { program := "ytenafjdlaefepaadoor", sum := "08e93f85159c697d84a32b6ecf8cd63cebfdc4a8c8cd374b5b8ecff0f19b5502", func := "pinnace/pinnacelaw09.PlicLevels", spec := "plicLevels", named := ["math/bits.deBruijn32tab"], apart := false, laid := [("math/bits.deBruijn32tab", laid_math_bits_deBruijn32tab)], narrowed := true }
def PlicLevelsUptoSaid : Prop := plicLevelsUptoRow.holds Tryd.pinned (OpenSpec.upto plicLevelsSpec)

/-- 'pinnacelaw09.PlicBest', WHERE WHAT IT READS IS OF BULK AT MOST 1048576: true; the input reads as it did. -/
def plicBestUptoRow : OpenClaim := { program := "ytenafjdlaefepaadoor", sum := "08e93f85159c697d84a32b6ecf8cd63cebfdc4a8c8cd374b5b8ecff0f19b5502", func := "pinnace/pinnacelaw09.PlicBest", spec := "plicBest", named := ["math/bits.deBruijn32tab"], apart := false, laid := [("math/bits.deBruijn32tab", laid_math_bits_deBruijn32tab)], narrowed := true }
def PlicBestUptoSaid : Prop := plicBestUptoRow.holds Tryd.pinned (OpenSpec.upto plicBestSpec)

/-- 'pinnacelaw09.PlicOnce', WHERE WHAT IT READS IS OF BULK AT MOST 1048576: true; the input reads as it did. -/
def plicOnceUptoRow : OpenClaim := { program := "ytenafjdlaefepaadoor", sum := "08e93f85159c697d84a32b6ecf8cd63cebfdc4a8c8cd374b5b8ecff0f19b5502", func := "pinnace/pinnacelaw09.PlicOnce", spec := "plicOnce", unfollowed := true, recurses := true, named := ["math/bits.deBruijn32tab"], apart := false, laid := [("math/bits.deBruijn32tab", laid_math_bits_deBruijn32tab)], narrowed := true }
def PlicOnceUptoSaid : Prop := plicOnceUptoRow.holds Tryd.pinned (OpenSpec.upto plicOnceSpec)

/-- 'pinnacelaw07.BusFinds', WHERE WHAT IT READS IS OF BULK AT MOST 1048576: true; the input reads as it did. -/
def busFindsUptoRow : OpenClaim := { program := "ytenafjdlaefepaadoor", sum := "08e93f85159c697d84a32b6ecf8cd63cebfdc4a8c8cd374b5b8ecff0f19b5502", func := "pinnace/pinnacelaw07.BusFinds", spec := "busFinds", inPlace := ["internal/reflectlite.ValueOf", "(internal/reflectlite.Value).Type", "(internal/reflectlite.Value).IsNil", "internal/reflectlite.TypeOf", "(internal/reflectlite.Value).Elem", "(internal/reflectlite.Value).Set"], unfollowed := true, recurses := true, named := ["pinnace/bus.regions", "errors.errorType"], apart := false, laid := [("errors.errorType", laid_errors_errorType), ("pinnace/bus.regions", laid_pinnace_bus_regions)], narrowed := true }
def BusFindsUptoSaid : Prop := busFindsUptoRow.holds Tryd.pinned (OpenSpec.upto busFindsSpec)

/-- 'pinnacelaw07.BusBases', WHERE WHAT IT READS IS OF BULK AT MOST 1048576: true; the input reads as it did. -/
def busBasesUptoRow : OpenClaim := { program := "ytenafjdlaefepaadoor", sum := "08e93f85159c697d84a32b6ecf8cd63cebfdc4a8c8cd374b5b8ecff0f19b5502", func := "pinnace/pinnacelaw07.BusBases", spec := "busBases", inPlace := ["internal/reflectlite.ValueOf", "(internal/reflectlite.Value).Type", "(internal/reflectlite.Value).IsNil", "internal/reflectlite.TypeOf", "(internal/reflectlite.Value).Elem", "(internal/reflectlite.Value).Set"], unfollowed := true, recurses := true, named := ["pinnace/bus.regions", "errors.errorType"], apart := false, laid := [("errors.errorType", laid_errors_errorType), ("pinnace/bus.regions", laid_pinnace_bus_regions)], narrowed := true }
def BusBasesUptoSaid : Prop := busBasesUptoRow.holds Tryd.pinned (OpenSpec.upto busBasesSpec)

/-- 'pinnacelaw07.BusApart', WHERE WHAT IT READS IS OF BULK AT MOST 1048576: true; the input reads as it did. -/
def busApartUptoRow : OpenClaim := { program := "ytenafjdlaefepaadoor", sum := "08e93f85159c697d84a32b6ecf8cd63cebfdc4a8c8cd374b5b8ecff0f19b5502", func := "pinnace/pinnacelaw07.BusApart", spec := "busApart", inPlace := ["internal/reflectlite.ValueOf", "(internal/reflectlite.Value).Type", "(internal/reflectlite.Value).IsNil", "internal/reflectlite.TypeOf", "(internal/reflectlite.Value).Elem", "(internal/reflectlite.Value).Set"], unfollowed := true, recurses := true, named := ["pinnace/bus.regions", "errors.errorType"], apart := false, laid := [("errors.errorType", laid_errors_errorType), ("pinnace/bus.regions", laid_pinnace_bus_regions)], narrowed := true }
def BusApartUptoSaid : Prop := busApartUptoRow.holds Tryd.pinned (OpenSpec.upto busApartSpec)

/-- 'pinnacelaw09.PlicWrites', WHERE WHAT IT READS IS OF BULK AT MOST 1048576: true; the input reads as it did. -/
def plicWritesUptoRow : OpenClaim := { program := "ytenafjdlaefepaadoor", sum := "08e93f85159c697d84a32b6ecf8cd63cebfdc4a8c8cd374b5b8ecff0f19b5502", func := "pinnace/pinnacelaw09.PlicWrites", spec := "plicWrites", inPlace := ["internal/reflectlite.ValueOf", "(internal/reflectlite.Value).Type", "(internal/reflectlite.Value).IsNil", "internal/reflectlite.TypeOf", "(internal/reflectlite.Value).Elem", "(internal/reflectlite.Value).Set"], unfollowed := true, recurses := true, named := ["errors.errorType", "math/bits.deBruijn32tab"], apart := false, laid := [("math/bits.deBruijn32tab", laid_math_bits_deBruijn32tab), ("errors.errorType", laid_errors_errorType)], narrowed := true }
def PlicWritesUptoSaid : Prop := plicWritesUptoRow.holds Tryd.pinned (OpenSpec.upto plicWritesSpec)

/-- 'pinnacelaw07.BusQueues', WHERE WHAT IT READS IS OF BULK AT MOST 1048576: true; the input reads as it did. -/
def busQueuesUptoRow : OpenClaim := { program := "ytenafjdlaefepaadoor", sum := "08e93f85159c697d84a32b6ecf8cd63cebfdc4a8c8cd374b5b8ecff0f19b5502", func := "pinnace/pinnacelaw07.BusQueues", spec := "busQueues", inPlace := ["internal/reflectlite.ValueOf", "(internal/reflectlite.Value).Type", "(internal/reflectlite.Value).IsNil", "internal/reflectlite.TypeOf", "(internal/reflectlite.Value).Elem", "(internal/reflectlite.Value).Set"], unfollowed := true, recurses := true, named := ["pinnace/bus.regions", "errors.errorType"], apart := false, laid := [("errors.errorType", laid_errors_errorType), ("pinnace/bus.regions", laid_pinnace_bus_regions)], narrowed := true }
def BusQueuesUptoSaid : Prop := busQueuesUptoRow.holds Tryd.pinned (OpenSpec.upto busQueuesSpec)

/-- 'pinnacelaw07.BusOrder', WHERE WHAT IT READS IS OF BULK AT MOST 1048576: true; the input reads as it did. -/
def busOrderUptoRow : OpenClaim := { program := "ytenafjdlaefepaadoor", sum := "08e93f85159c697d84a32b6ecf8cd63cebfdc4a8c8cd374b5b8ecff0f19b5502", func := "pinnace/pinnacelaw07.BusOrder", spec := "busOrder", inPlace := ["internal/reflectlite.ValueOf", "(internal/reflectlite.Value).Type", "(internal/reflectlite.Value).IsNil", "internal/reflectlite.TypeOf", "(internal/reflectlite.Value).Elem", "(internal/reflectlite.Value).Set"], unfollowed := true, recurses := true, named := ["pinnace/bus.regions", "errors.errorType"], apart := false, laid := [("errors.errorType", laid_errors_errorType), ("pinnace/bus.regions", laid_pinnace_bus_regions)], narrowed := true }
def BusOrderUptoSaid : Prop := busOrderUptoRow.holds Tryd.pinned (OpenSpec.upto busOrderSpec)

/-- 'pinnacelaw14.VirtioReads', WHERE WHAT IT READS IS OF BULK AT MOST 1048576: true; the input reads as it did. -/
def virtioReadsUptoRow : OpenClaim := { program := "ytenafjdlaefepaadoor", sum := "08e93f85159c697d84a32b6ecf8cd63cebfdc4a8c8cd374b5b8ecff0f19b5502", func := "pinnace/pinnacelaw14.VirtioReads", spec := "virtioReads", inPlace := ["internal/reflectlite.ValueOf", "(internal/reflectlite.Value).Type", "(internal/reflectlite.Value).IsNil", "internal/reflectlite.TypeOf", "(internal/reflectlite.Value).Elem", "(internal/reflectlite.Value).Set"], unfollowed := true, recurses := true, named := ["errors.errorType"], apart := false, laid := [("errors.errorType", laid_errors_errorType)], narrowed := true }
def VirtioReadsUptoSaid : Prop := virtioReadsUptoRow.holds Tryd.pinned (OpenSpec.upto virtioReadsSpec)

end Rows
end Go.Proofs.YtenafjdlaefepaaDoor
