/-
Opening a state of plic's reference, and the rows' imports.
-/
import Derived.Test.YtenafjdlaefepaaDoorOpen
import Derived.Test.YtenafjdlaefepaaDoorLaid
import Derived.Test.YtenafjdlaefepaaDoorPlic
namespace Go.Proofs.YtenafjdlaefepaaDoor
open Go.ChangeShapes Go.WideShapes Go.RowKit

set_option maxRecDepth 100000 in
theorem open_PS {w : World} {r : Reach} {b : Nat} {v : Value} (hv : Value.okWide Tryd.prog w r b 25 v) : ∃ s : PS, v = s.v ∧ s.wf := by
  obtain ⟨cs, rfl, hsz, hc⟩ := okWide_cells (ts := [22, 22, 22, 22, 22, 22, 22, 22, 22, 22, 22, 22]) Tryd.underlying25 (by kernel_rfl) (by kernel_rfl) hv
  have one : ∀ i, i < 12 → ∃ m : Nat, cs[i]? = some (.int .u32 m) ∧ m < 4294967296 := fun i hi => by
    obtain ⟨x, hx, hok⟩ := hc i 22 (by
      have : i = 0 ∨ i = 1 ∨ i = 2 ∨ i = 3 ∨ i = 4 ∨ i = 5 ∨ i = 6 ∨ i = 7 ∨ i = 8 ∨ i = 9 ∨ i = 10 ∨ i = 11 := by omega
      rcases this with rfl | rfl | rfl | rfl | rfl | rfl | rfl | rfl | rfl | rfl | rfl | rfl <;> rfl)
    obtain ⟨m, rfl, hm⟩ := cell_u32 Tryd.underlying22 hok
    exact ⟨m, hx, hm⟩
  obtain ⟨p0, e0, h0⟩ := one 0 (by omega)
  obtain ⟨p1, e1, h1⟩ := one 1 (by omega)
  obtain ⟨p2, e2, h2⟩ := one 2 (by omega)
  obtain ⟨p3, e3, h3⟩ := one 3 (by omega)
  obtain ⟨p4, e4, h4⟩ := one 4 (by omega)
  obtain ⟨p5, e5, h5⟩ := one 5 (by omega)
  obtain ⟨p6, e6, h6⟩ := one 6 (by omega)
  obtain ⟨p7, e7, h7⟩ := one 7 (by omega)
  obtain ⟨p8, e8, h8⟩ := one 8 (by omega)
  obtain ⟨p9, e9, h9⟩ := one 9 (by omega)
  obtain ⟨p10, e10, h10⟩ := one 10 (by omega)
  obtain ⟨p11, e11, h11⟩ := one 11 (by omega)
  refine ⟨⟨p0, p1, p2, p3, p4, p5, p6, p7, p8, p9, p10, p11⟩, ?_, ⟨h0, h1, h2, h3, h4, h5, h6, h7, h8, h9, h10, h11⟩⟩
  show Value.agg cs = Value.agg _
  congr 1
  apply Array.ext_getElem?
  intro i
  by_cases hi : i < 12
  · have : i = 0 ∨ i = 1 ∨ i = 2 ∨ i = 3 ∨ i = 4 ∨ i = 5 ∨ i = 6 ∨ i = 7 ∨ i = 8 ∨ i = 9 ∨ i = 10 ∨ i = 11 := by omega
    rcases this with rfl | rfl | rfl | rfl | rfl | rfl | rfl | rfl | rfl | rfl | rfl | rfl <;> (first | rw [e0] | rw [e1] | rw [e2] | rw [e3] | rw [e4] | rw [e5] | rw [e6] | rw [e7] | rw [e8] | rw [e9] | rw [e10] | rw [e11]) <;> rfl
  · rw [Array.getElem?_eq_none (by rw [hsz]; simp; omega), Array.getElem?_eq_none (by simp; omega)]
end Go.Proofs.YtenafjdlaefepaaDoor
