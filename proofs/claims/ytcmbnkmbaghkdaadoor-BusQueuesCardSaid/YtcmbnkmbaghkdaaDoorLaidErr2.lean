/-
The listed variables errors.errorType and bus.regions: a world that meets the row's premise, and what the premise gives a walk.
-/
import Derived.Test.YtcmbnkmbaghkdaaDoorG4
import Derived.Test.YtcmbnkmbaghkdaaDoorAs
namespace Go.Proofs.YtcmbnkmbaghkdaaDoor
open Go.ChangeShapes Go.WideShapes Go.RowKit

def errHandle : Value := .iface 236 (.agg #[.pointer (some ⟨2, 34, none⟩)])
/-- A world in which both hold what the text lays. -/
noncomputable def laidWorld2 (os : Os) : World :=
  let w0 := World.holding Tryd.prog os ⟨#[], #[], []⟩
  let put (cs : Array Value) (o : Obj) : Obj := match o with | .cells _ t frozen => .cells cs t frozen | o => o
  { w0 with heap := (w0.heap.modify 0 (put regionCells)).modify 1 (put #[errHandle]) }
theorem laid_err_bus (os : Os) (args : Array Value) : laidMetH Tryd.prog [("errors.errorType", Rows.laid_errors_errorType), ("pinnace/bus.regions", Rows.laid_pinnace_bus_regions)] ((laidWorld2 os).forCall (fun _ _ => 0) ⟨#[], args, []⟩).memory :=
  laidMetH_of_parts (laidMet_of_run' 8 (by kernel_rfl) (by kernel_rfl)) (by kernel_rfl)
theorem et_named : Tryd.prog.globalNamed "errors.errorType" = some 1 := by kernel_rfl
theorem rt_type : (Tryd.prog.cutTypes.find? (·.1 == "internal/reflectlite.rtype")).map (·.2) = some 236 := by kernel_rfl
theorem one_row : ((List.range 320).filter fun t => Tryd.prog.rowNamed t [101, 114, 114, 111, 114]) = [34] := by kernel_rfl
theorem types_size : Tryd.prog.types.size = 320 := by kernel_rfl
theorem err_of_handles {l : List (String × DataW Unit)} {W : World} (h : handlesMet Tryd.prog l W) (hm : ("errors.errorType", Rows.laid_errors_errorType) ∈ l) : ErrAt W := by
  obtain ⟨name, u, ty, e1, e2, e3, e4, e5⟩ := h _ hm
  have en : name = [101, 114, 114, 111, 114] := (Option.some.inj e1).symm
  subst en
  obtain rfl := Option.some.inj (rt_type.symm.trans e2)
  have hm : ty ∈ (List.range 320).filter fun t => Tryd.prog.rowNamed t [101, 114, 114, 111, 114] := List.mem_filter.2 ⟨List.mem_range.2 (by rw [← types_size]; exact e3), e4⟩
  rw [one_row] at hm
  obtain rfl := List.mem_singleton.1 hm
  have hh : typeHandle Tryd.prog 34 = .pointer (some ⟨2, 34, none⟩) := by kernel_rfl
  rw [hh] at e5
  have := World.var?_cell et_named e5 0
  simpa [ErrAt] using this

theorem errbus_of_laid {W : World} (h : laidMetH Tryd.prog [("errors.errorType", Rows.laid_errors_errorType), ("pinnace/bus.regions", Rows.laid_pinnace_bus_regions)] W) : ErrAt W ∧ RegAt W := by
  have h' : laidMet Tryd.prog [("pinnace/bus.regions", Rows.laid_pinnace_bus_regions)] W ∧ handlesMet Tryd.prog [("errors.errorType", Rows.laid_errors_errorType)] W := h
  exact ⟨err_of_handles h'.2 (List.mem_singleton.2 rfl), reg_of_met h'.1⟩
theorem laid_err2 (os : Os) (args : Array Value) : laidMetH Tryd.prog [("errors.errorType", Rows.laid_errors_errorType)] ((laidWorld2 os).forCall (fun _ _ => 0) ⟨#[], args, []⟩).memory :=
  laidMetH_of_parts (laidMet_nil _ _) (by kernel_rfl)
theorem err_of_laid {W : World} (h : laidMetH Tryd.prog [("errors.errorType", Rows.laid_errors_errorType)] W) : ErrAt W := by
  have h' : laidMet Tryd.prog [] W ∧ handlesMet Tryd.prog [("errors.errorType", Rows.laid_errors_errorType)] W := h
  exact err_of_handles h'.2 (List.mem_singleton.2 rfl)
end Go.Proofs.YtcmbnkmbaghkdaaDoor
