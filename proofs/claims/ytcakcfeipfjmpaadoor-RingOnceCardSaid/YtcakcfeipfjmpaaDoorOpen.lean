/-
Opening arguments: what the model says of a value of a type, cell by cell.
-/
import Derived.Test.YtcakcfeipfjmpaaDoorLift
namespace Go.Proofs.YtcakcfeipfjmpaaDoor
open Go.ChangeShapes Go.WideShapes Go.RowKit

section
variable {P : Program} {w : World} {r : Reach} {b : Nat}
theorem okWide_cells {t : TypeId} {v : Value} {ts : List TypeId} {fs : Array Field} (hu : P.underlying t = some (.struct fs)) (hC : P.cellsOf t = ts.length) (hct : P.cellTypes P.depth t = some ts)
    (hv : Value.okWide P w r b t v) : ∃ cs : Array Value, v = .agg cs ∧ cs.size = ts.length ∧ ∀ (i : Nat) (u : TypeId), ts[i]? = some u → ∃ x : Value, cs[i]? = some x ∧ Cell.okWide P w r b u x := by
  unfold Value.okWide at hv
  simp only [hu] at hv
  obtain ⟨cs, rfl, hsz, ts', hct', _, hrow⟩ := hv
  obtain rfl : ts = ts' := Option.some.inj (hct.symm.trans hct')
  refine ⟨cs, rfl, hsz.trans hC, fun i u hi => ?_⟩
  have hlt : i < ts.length := (List.getElem?_eq_some_iff.1 hi).1
  have hcs : cs[i]? = some (cs[i]'(by omega)) := Array.getElem?_eq_getElem (by omega)
  obtain ⟨u', hu', hok⟩ := hrow i _ hcs
  rw [Nat.mod_eq_of_lt hlt, hi] at hu'
  obtain rfl := Option.some.inj hu'
  exact ⟨_, hcs, hok⟩
theorem cell_int {u : TypeId} {k : IntKind} {x : Value} (hu : P.underlying u = some (.int k)) (h : Cell.okWide P w r b u x) : ∃ n, x = .int k n ∧ k.has n := by
  unfold Cell.okWide at h
  rw [hu] at h
  cases x <;> simp only [Cell.ok, hu] at h
  obtain ⟨rfl, h⟩ := h
  exact ⟨_, rfl, h⟩
theorem cell_bool {u : TypeId} {x : Value} (hu : P.underlying u = some .bool) (h : Cell.okWide P w r b u x) : ∃ c, x = .bool c := by
  unfold Cell.okWide at h
  rw [hu] at h
  cases x <;> simp only [Cell.ok, hu] at h
  exact ⟨_, rfl⟩
theorem has_u32 {n : Int} (h : IntKind.u32.has n) : ∃ m : Nat, n = m ∧ m < 4294967296 := by
  simp only [IntKind.has, IntKind.min, IntKind.max, IntKind.signed, IntKind.bits] at h
  simp at h
  exact ⟨n.toNat, by omega, by omega⟩
theorem cell_u32 {u : TypeId} {x : Value} (hu : P.underlying u = some (.int .u32)) (h : Cell.okWide P w r b u x) : ∃ m : Nat, x = .int .u32 m ∧ m < 4294967296 := by
  obtain ⟨n, rfl, hn⟩ := cell_int hu h
  obtain ⟨m, rfl, hm⟩ := has_u32 hn
  exact ⟨m, rfl, hm⟩
theorem open_u32 {t : TypeId} {v : Value} (hu : P.underlying t = some (.int .u32)) (hv : Value.okWide P w r b t v) : ∃ m : Nat, v = .int .u32 m ∧ m < 4294967296 := by
  unfold Value.okWide at hv
  simp only [hu] at hv
  exact cell_u32 hu hv
theorem open_i64 {t : TypeId} {v : Value} (hu : P.underlying t = some (.int .i64)) (hv : Value.okWide P w r b t v) : ∃ n : Int, v = .int .i64 n ∧ -9223372036854775808 ≤ n ∧ n ≤ 9223372036854775807 := by
  unfold Value.okWide at hv
  simp only [hu] at hv
  obtain ⟨n, rfl, hn⟩ := cell_int hu hv
  simp only [IntKind.has, IntKind.min, IntKind.max, IntKind.signed, IntKind.bits] at hn
  simp at hn
  exact ⟨n, rfl, by omega, by omega⟩
end
end Go.Proofs.YtcakcfeipfjmpaaDoor
