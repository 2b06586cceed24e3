/-
The listed variables of this seat: what a law's premise says of them, and a world that meets it.
-/
import Derived.Test.YtenafjdlaefepaaDoorLift
import Derived.Test.YtenafjdlaefepaaDoorRows
import Derived.Test.YtenafjdlaefepaaDoorTz
import Derived.Lib.LaidTab
namespace Go.Proofs.YtenafjdlaefepaaDoor
open Go.ChangeShapes Go.WideShapes Go.RowKit

theorem own : ownKnob Tryd.prog.godebug = none := by kernel_rfl
theorem laidOut : laidOutB Tryd.prog = true := by kernel_rfl
def tabCells : Array Value := (tabN.map fun n : Nat => Value.int .u8 (n : Int)).toArray
def regionCells : Array Value := #[.int .u32 0, .int .u32 0, .int .i64 0, .int .u32 33554432, .int .u32 65536, .int .i64 4, .int .u32 201326592, .int .u32 4194304, .int .i64 4, .int .u32 268435456, .int .u32 8, .int .i64 1, .int .u32 268500992, .int .u32 256, .int .i64 4,
  .int .u32 268566528, .int .u32 512, .int .i64 4, .int .u32 268632064, .int .u32 512, .int .i64 4, .int .u32 2147483648, .int .u32 0, .int .i64 0]
def errHandle : Value := .iface 159 (.agg #[.pointer (some ⟨3, 35, none⟩)])
/-- A world in which the listed variables hold what the text lays. -/
noncomputable def laidWorld (os : Os) : World :=
  let w0 := World.holding Tryd.prog os ⟨#[], #[], []⟩
  let put (cs : Array Value) (o : Obj) : Obj := match o with | .cells _ t frozen => .cells cs t frozen | o => o
  { w0 with heap := ((w0.heap.modify 0 (put tabCells)).modify 1 (put regionCells)).modify 2 (put #[errHandle]) }

theorem laid_tab (os : Os) (args : Array Value) : laidMetH Tryd.prog [("math/bits.deBruijn32tab", Rows.laid_math_bits_deBruijn32tab)] ((laidWorld os).forCall (fun _ _ => 0) ⟨#[], args, []⟩).memory :=
  laidMetH_of_parts (laidMet_of_run' 8 (by kernel_rfl) (by kernel_rfl)) (by kernel_rfl)
theorem laid_err (os : Os) (args : Array Value) : laidMetH Tryd.prog [("errors.errorType", Rows.laid_errors_errorType)] ((laidWorld os).forCall (fun _ _ => 0) ⟨#[], args, []⟩).memory :=
  laidMetH_of_parts (laidMet_nil _ _) (by kernel_rfl)
theorem laid_err_bus (os : Os) (args : Array Value) : laidMetH Tryd.prog [("errors.errorType", Rows.laid_errors_errorType), ("pinnace/bus.regions", Rows.laid_pinnace_bus_regions)] ((laidWorld os).forCall (fun _ _ => 0) ⟨#[], args, []⟩).memory :=
  laidMetH_of_parts (laidMet_of_run' 8 (by kernel_rfl) (by kernel_rfl)) (by kernel_rfl)
theorem laid_tab_err (os : Os) (args : Array Value) : laidMetH Tryd.prog [("math/bits.deBruijn32tab", Rows.laid_math_bits_deBruijn32tab), ("errors.errorType", Rows.laid_errors_errorType)] ((laidWorld os).forCall (fun _ _ => 0) ⟨#[], args, []⟩).memory :=
  laidMetH_of_parts (laidMet_of_run' 8 (by kernel_rfl) (by kernel_rfl)) (by kernel_rfl)

theorem tab_named : Tryd.prog.globalNamed "math/bits.deBruijn32tab" = some 0 := by kernel_rfl
theorem tab_type : (Tryd.prog.globals[0]?).map (·.type) = some 139 := by kernel_rfl
theorem tab_cells : Tryd.prog.cellsOf 139 = 32 := by kernel_rfl
theorem byte_cells : Tryd.prog.cellsOf 5 = 1 := by kernel_rfl
theorem tab_data : (Rows.laid_math_bits_deBruijn32tab : DataW Unit) = Lib.tabData .u8 (tabN.map fun n : Nat => (n : Int)) := rfl
theorem tab32_of_met {l : List (String × DataW Unit)} {W : World} (h : laidMet Tryd.prog (("math/bits.deBruijn32tab", Rows.laid_math_bits_deBruijn32tab) :: l) W) : Tab32 W := by
  rw [tab_data] at h
  have h1 := Lib.tabIs_of_head tab_named tab_type Tryd.underlying139 Tryd.underlying5 byte_cells tab_cells h
  intro j hj
  rw [World.var?_cell tab_named h1 j]
  simp [tabN] at *
  have : j = 0 ∨ j = 1 ∨ j = 2 ∨ j = 3 ∨ j = 4 ∨ j = 5 ∨ j = 6 ∨ j = 7 ∨ j = 8 ∨ j = 9 ∨ j = 10 ∨ j = 11 ∨ j = 12 ∨ j = 13 ∨ j = 14 ∨ j = 15 ∨ j = 16 ∨ j = 17 ∨ j = 18 ∨ j = 19 ∨ j = 20 ∨ j = 21 ∨ j = 22 ∨ j = 23 ∨ j = 24 ∨ j = 25 ∨ j = 26 ∨ j = 27 ∨ j = 28 ∨ j = 29 ∨ j = 30 ∨ j = 31 := by omega
  rcases this with rfl | rfl | rfl | rfl | rfl | rfl | rfl | rfl | rfl | rfl | rfl | rfl | rfl | rfl | rfl | rfl | rfl | rfl | rfl | rfl | rfl | rfl | rfl | rfl | rfl | rfl | rfl | rfl | rfl | rfl | rfl | rfl <;> rfl
theorem tab32_of_tab {W : World} (h : laidMetH Tryd.prog [("math/bits.deBruijn32tab", Rows.laid_math_bits_deBruijn32tab)] W) : Tab32 W :=
  tab32_of_met (l := []) (show laidMet Tryd.prog [("math/bits.deBruijn32tab", Rows.laid_math_bits_deBruijn32tab)] W from h)
end Go.Proofs.YtenafjdlaefepaaDoor
