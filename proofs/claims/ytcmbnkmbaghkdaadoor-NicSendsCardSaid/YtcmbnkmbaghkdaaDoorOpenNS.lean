/-
Opening a state of the net device's reference out of the row's premise.
No condition.
-/
import Derived.Test.YtcmbnkmbaghkdaaDoorOpenVS
import Derived.Test.YtcmbnkmbaghkdaaDoorNic
namespace Go.Proofs.YtcmbnkmbaghkdaaDoor
open Go.ChangeShapes Go.WideShapes Go.RowKit

set_option maxRecDepth 100000 in
theorem open_NS {w : World} {r : Reach} {b : Nat} {v : Value} (hv : Value.okWide Tryd.prog w r b 59 v) : ∃ s : NS, v = .agg s.c ∧ s.wf := by
  obtain ⟨cs, rfl, hsz, hc⟩ := okWide_cells (ts := [25, 25, 25, 25, 25, 25, 25, 4, 3, 25, 25, 25, 50, 50, 4, 3, 25, 25, 25, 50, 50, 4, 25]) Tryd.underlying59 (by kernel_rfl) (by kernel_rfl) hv
  obtain ⟨x0, e0, k0⟩ := hc 0 25 rfl
  obtain ⟨m0, rfl, h0⟩ := cell_u32 Tryd.underlying25 k0
  obtain ⟨x1, e1, k1⟩ := hc 1 25 rfl
  obtain ⟨m1, rfl, h1⟩ := cell_u32 Tryd.underlying25 k1
  obtain ⟨x2, e2, k2⟩ := hc 2 25 rfl
  obtain ⟨m2, rfl, h2⟩ := cell_u32 Tryd.underlying25 k2
  obtain ⟨x3, e3, k3⟩ := hc 3 25 rfl
  obtain ⟨m3, rfl, h3⟩ := cell_u32 Tryd.underlying25 k3
  obtain ⟨x4, e4, k4⟩ := hc 4 25 rfl
  obtain ⟨m4, rfl, h4⟩ := cell_u32 Tryd.underlying25 k4
  obtain ⟨x5, e5, k5⟩ := hc 5 25 rfl
  obtain ⟨m5, rfl, h5⟩ := cell_u32 Tryd.underlying25 k5
  obtain ⟨x6, e6, k6⟩ := hc 6 25 rfl
  obtain ⟨m6, rfl, h6⟩ := cell_u32 Tryd.underlying25 k6
  obtain ⟨x7, e7, k7⟩ := hc 7 4 rfl
  obtain ⟨m7, rfl⟩ := cell_bool Tryd.underlying4 k7
  obtain ⟨x8, e8, k8⟩ := hc 8 3 rfl
  obtain ⟨m8, rfl, h8, g8⟩ := cell_i64 Tryd.underlying3 k8
  obtain ⟨x9, e9, k9⟩ := hc 9 25 rfl
  obtain ⟨m9, rfl, h9⟩ := cell_u32 Tryd.underlying25 k9
  obtain ⟨x10, e10, k10⟩ := hc 10 25 rfl
  obtain ⟨m10, rfl, h10⟩ := cell_u32 Tryd.underlying25 k10
  obtain ⟨x11, e11, k11⟩ := hc 11 25 rfl
  obtain ⟨m11, rfl, h11⟩ := cell_u32 Tryd.underlying25 k11
  obtain ⟨x12, e12, k12⟩ := hc 12 50 rfl
  obtain ⟨m12, rfl, h12⟩ := cell_u16 Tryd.underlying50 k12
  obtain ⟨x13, e13, k13⟩ := hc 13 50 rfl
  obtain ⟨m13, rfl, h13⟩ := cell_u16 Tryd.underlying50 k13
  obtain ⟨x14, e14, k14⟩ := hc 14 4 rfl
  obtain ⟨m14, rfl⟩ := cell_bool Tryd.underlying4 k14
  obtain ⟨x15, e15, k15⟩ := hc 15 3 rfl
  obtain ⟨m15, rfl, h15, g15⟩ := cell_i64 Tryd.underlying3 k15
  obtain ⟨x16, e16, k16⟩ := hc 16 25 rfl
  obtain ⟨m16, rfl, h16⟩ := cell_u32 Tryd.underlying25 k16
  obtain ⟨x17, e17, k17⟩ := hc 17 25 rfl
  obtain ⟨m17, rfl, h17⟩ := cell_u32 Tryd.underlying25 k17
  obtain ⟨x18, e18, k18⟩ := hc 18 25 rfl
  obtain ⟨m18, rfl, h18⟩ := cell_u32 Tryd.underlying25 k18
  obtain ⟨x19, e19, k19⟩ := hc 19 50 rfl
  obtain ⟨m19, rfl, h19⟩ := cell_u16 Tryd.underlying50 k19
  obtain ⟨x20, e20, k20⟩ := hc 20 50 rfl
  obtain ⟨m20, rfl, h20⟩ := cell_u16 Tryd.underlying50 k20
  obtain ⟨x21, e21, k21⟩ := hc 21 4 rfl
  obtain ⟨m21, rfl⟩ := cell_bool Tryd.underlying4 k21
  obtain ⟨x22, e22, k22⟩ := hc 22 25 rfl
  obtain ⟨m22, rfl, h22⟩ := cell_u32 Tryd.underlying25 k22
  refine ⟨⟨⟨m0, m1, m2, m3, m4, m5, m6, ⟨m7, m8, m9, m10, m11, m12, m13⟩, ⟨m14, m15, m16, m17, m18, m19, m20⟩⟩, m21, m22⟩, ?_, ⟨⟨h0, h1, h2, h3, h4, h5, h6, ⟨h8, g8, h9, h10, h11, h12, h13⟩, ⟨h15, g15, h16, h17, h18, h19, h20⟩⟩, h22⟩⟩
  show Value.agg cs = Value.agg _
  congr 1
  apply Array.ext_getElem?
  intro i
  by_cases hi : i < 23
  · have : i = 0 ∨ i = 1 ∨ i = 2 ∨ i = 3 ∨ i = 4 ∨ i = 5 ∨ i = 6 ∨ i = 7 ∨ i = 8 ∨ i = 9 ∨ i = 10 ∨ i = 11 ∨ i = 12 ∨ i = 13 ∨ i = 14 ∨ i = 15 ∨ i = 16 ∨ i = 17 ∨ i = 18 ∨ i = 19 ∨ i = 20 ∨ i = 21 ∨ i = 22 := by omega
    rcases this with rfl | rfl | rfl | rfl | rfl | rfl | rfl | rfl | rfl | rfl | rfl | rfl | rfl | rfl | rfl | rfl | rfl | rfl | rfl | rfl | rfl | rfl | rfl
    · exact e0
    · exact e1
    · exact e2
    · exact e3
    · exact e4
    · exact e5
    · exact e6
    · exact e7
    · exact e8
    · exact e9
    · exact e10
    · exact e11
    · exact e12
    · exact e13
    · exact e14
    · exact e15
    · exact e16
    · exact e17
    · exact e18
    · exact e19
    · exact e20
    · exact e21
    · exact e22
  · rw [Array.getElem?_eq_none (by rw [hsz]; simp; omega), Array.getElem?_eq_none (by simp [NS.c]; omega)]
end Go.Proofs.YtcmbnkmbaghkdaaDoor
