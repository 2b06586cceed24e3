/-
Opening a state of dma's reference out of the row's premise.
No condition.
-/
import Derived.Test.YtcakcfeipfjmpaaDoorOpen
import Derived.Test.YtcakcfeipfjmpaaDoorDma
namespace Go.Proofs.YtcakcfeipfjmpaaDoor
open Go.ChangeShapes Go.WideShapes Go.RowKit

set_option maxRecDepth 100000 in
theorem open_Dst {w : World} {r : Reach} {b : Nat} {v : Value} (hv : Value.okWide Tryd.prog w r b 24 v) : ∃ s : Dst, v = .agg s.c ∧ s.wf := by
  obtain ⟨cs, rfl, hsz, hc⟩ := okWide_cells (ts := [22, 22, 22, 22, 22, 4, 22, 22, 22, 22, 4])  Tryd.underlying24 (by kernel_rfl) (by kernel_rfl) hv
  obtain ⟨x0, e0, k0⟩ := hc 0 22 rfl
  obtain ⟨m0, rfl, h0⟩ := cell_u32 Tryd.underlying22 k0
  obtain ⟨x1, e1, k1⟩ := hc 1 22 rfl
  obtain ⟨m1, rfl, h1⟩ := cell_u32 Tryd.underlying22 k1
  obtain ⟨x2, e2, k2⟩ := hc 2 22 rfl
  obtain ⟨m2, rfl, h2⟩ := cell_u32 Tryd.underlying22 k2
  obtain ⟨x3, e3, k3⟩ := hc 3 22 rfl
  obtain ⟨m3, rfl, h3⟩ := cell_u32 Tryd.underlying22 k3
  obtain ⟨x4, e4, k4⟩ := hc 4 22 rfl
  obtain ⟨m4, rfl, h4⟩ := cell_u32 Tryd.underlying22 k4
  obtain ⟨x5, e5, k5⟩ := hc 5 4 rfl
  obtain ⟨m5, rfl⟩ := cell_bool Tryd.underlying4 k5
  obtain ⟨x6, e6, k6⟩ := hc 6 22 rfl
  obtain ⟨m6, rfl, h6⟩ := cell_u32 Tryd.underlying22 k6
  obtain ⟨x7, e7, k7⟩ := hc 7 22 rfl
  obtain ⟨m7, rfl, h7⟩ := cell_u32 Tryd.underlying22 k7
  obtain ⟨x8, e8, k8⟩ := hc 8 22 rfl
  obtain ⟨m8, rfl, h8⟩ := cell_u32 Tryd.underlying22 k8
  obtain ⟨x9, e9, k9⟩ := hc 9 22 rfl
  obtain ⟨m9, rfl, h9⟩ := cell_u32 Tryd.underlying22 k9
  obtain ⟨x10, e10, k10⟩ := hc 10 4 rfl
  obtain ⟨m10, rfl⟩ := cell_bool Tryd.underlying4 k10
  refine ⟨⟨m0, m1, m2, m3, m4, m5, m6, m7, m8, m9, m10⟩, ?_, ⟨h0, h1, h2, h3, h4, h6, h7, h8, h9⟩⟩
  show Value.agg cs = Value.agg _
  congr 1
  apply Array.ext_getElem?
  intro i
  by_cases hi : i < 11
  · have : i = 0 ∨ i = 1 ∨ i = 2 ∨ i = 3 ∨ i = 4 ∨ i = 5 ∨ i = 6 ∨ i = 7 ∨ i = 8 ∨ i = 9 ∨ i = 10 := by omega
    rcases this with rfl | rfl | rfl | rfl | rfl | rfl | rfl | rfl | rfl | rfl | rfl
    · exact e0
    · exact e1
    · exact e2
    · exact e3
    · exact e4
    · exact e5
    · exact e6
    · exact e7
    · exact e8
    · exact e9
    · exact e10
  · rw [Array.getElem?_eq_none (by rw [hsz]; simp; omega), Array.getElem?_eq_none (by simp [Dst.c]; omega)]
end Go.Proofs.YtcakcfeipfjmpaaDoor
