/-
Opening a ring of the reference out of the row's premise.
No condition.
-/
import Derived.Test.YtcbjlpkkebcmjaaDoorOpenVS
import Derived.Test.YtcbjlpkkebcmjaaDoorG3
namespace Go.Proofs.YtcbjlpkkebcmjaaDoor
open Go.ChangeShapes Go.WideShapes Go.RowKit

set_option maxRecDepth 100000 in
theorem open_Rg {w : World} {r : Reach} {b : Nat} {v : Value} (hv : Value.okWide Tryd.prog w r b 52 v) : ∃ s : Rg, v = .agg s.c ∧ s.wf := by
  obtain ⟨cs, rfl, hsz, hc⟩ := okWide_cells (ts := [3, 25, 25, 25, 50, 50]) Tryd.underlying52 (by kernel_rfl) (by kernel_rfl) hv
  obtain ⟨x0, e0, k0⟩ := hc 0 3 rfl
  obtain ⟨m0, rfl, h0, g0⟩ := cell_i64 Tryd.underlying3 k0
  obtain ⟨x1, e1, k1⟩ := hc 1 25 rfl
  obtain ⟨m1, rfl, h1⟩ := cell_u32 Tryd.underlying25 k1
  obtain ⟨x2, e2, k2⟩ := hc 2 25 rfl
  obtain ⟨m2, rfl, h2⟩ := cell_u32 Tryd.underlying25 k2
  obtain ⟨x3, e3, k3⟩ := hc 3 25 rfl
  obtain ⟨m3, rfl, h3⟩ := cell_u32 Tryd.underlying25 k3
  obtain ⟨x4, e4, k4⟩ := hc 4 50 rfl
  obtain ⟨m4, rfl, h4⟩ := cell_u16 Tryd.underlying50 k4
  obtain ⟨x5, e5, k5⟩ := hc 5 50 rfl
  obtain ⟨m5, rfl, h5⟩ := cell_u16 Tryd.underlying50 k5
  refine ⟨⟨m0, m1, m2, m3, m4, m5⟩, ?_, ⟨h0, g0, h1, h2, h3, h4, h5⟩⟩
  show Value.agg cs = Value.agg _
  congr 1
  apply Array.ext_getElem?
  intro i
  by_cases hi : i < 6
  · have : i = 0 ∨ i = 1 ∨ i = 2 ∨ i = 3 ∨ i = 4 ∨ i = 5 := by omega
    rcases this with rfl | rfl | rfl | rfl | rfl | rfl
    · exact e0
    · exact e1
    · exact e2
    · exact e3
    · exact e4
    · exact e5
  · rw [Array.getElem?_eq_none (by rw [hsz]; simp; omega), Array.getElem?_eq_none (by simp [Rg.c]; omega)]
end Go.Proofs.YtcbjlpkkebcmjaaDoor
