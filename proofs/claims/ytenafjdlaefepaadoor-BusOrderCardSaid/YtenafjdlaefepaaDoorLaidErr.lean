/-
What the listed variables errors.errorType and bus.regions give a walk.
Condition: the row's premise on them.
-/
import Derived.Test.YtenafjdlaefepaaDoorLaid
import Derived.Test.YtenafjdlaefepaaDoorAs
import Derived.Test.YtenafjdlaefepaaDoorBus
import Derived.OpenShut
import Derived.ChangeSame
namespace Go.Proofs.YtenafjdlaefepaaDoor
open Go.ChangeShapes Go.WideShapes Go.RowKit

theorem et_named : Tryd.prog.globalNamed "errors.errorType" = some 2 := by kernel_rfl
theorem rt_type : (Tryd.prog.cutTypes.find? (·.1 == "internal/reflectlite.rtype")).map (·.2) = some 159 := by kernel_rfl
theorem one_row : ((List.range 201).filter fun t => Tryd.prog.rowNamed t [101, 114, 114, 111, 114]) = [35] := by kernel_rfl
theorem types_size : Tryd.prog.types.size = 201 := by kernel_rfl
theorem err_of_handles {l : List (String × DataW Unit)} {W : World} (h : handlesMet Tryd.prog l W) (hm : ("errors.errorType", Rows.laid_errors_errorType) ∈ l) : ErrAt W := by
  obtain ⟨name, u, ty, e1, e2, e3, e4, e5⟩ := h _ hm
  have en : name = [101, 114, 114, 111, 114] := (Option.some.inj e1).symm
  subst en
  obtain rfl := Option.some.inj (rt_type.symm.trans e2)
  have hm : ty ∈ (List.range 201).filter fun t => Tryd.prog.rowNamed t [101, 114, 114, 111, 114] := List.mem_filter.2 ⟨List.mem_range.2 (by rw [← types_size]; exact e3), e4⟩
  rw [one_row] at hm
  obtain rfl := List.mem_singleton.1 hm
  have hh : typeHandle Tryd.prog 35 = .pointer (some ⟨3, 35, none⟩) := by kernel_rfl
  rw [hh] at e5
  have := World.var?_cell et_named e5 0
  simpa [ErrAt] using this

theorem reg_named : Tryd.prog.globalNamed "pinnace/bus.regions" = some 1 := by kernel_rfl
theorem reg_type : (Tryd.prog.globals[1]?).map (·.type) = some 141 := by kernel_rfl
theorem reg_cells : Tryd.prog.cellsOf 121 = 3 := by kernel_rfl
theorem u32_cells : Tryd.prog.cellsOf 22 = 1 := by kernel_rfl
theorem int_cells : Tryd.prog.cellsOf 3 = 1 := by kernel_rfl
theorem regs_cells : Tryd.prog.cellsOf 141 = 24 := by kernel_rfl
theorem len3 {α : Type} {l : List α} (h : l.length = 3) : ∃ a b c, l = [a, b, c] := by
  match l, h with
  | [a, b, c], _ => exact ⟨a, b, c, rfl⟩
theorem triple_of_trod {H : Type} {enc : TypeId × Value → H} {w : World} {fuel base : Nat} {sp : Nat → Bool} {held : Bool} {cs : List Value} {x : DataW H × List MemPlace} {a b c : Int}
    (h : DataW.trod enc Tryd.prog w base sp held fuel 121 cs = some x) (hx : x.1 = .agg [.lit (.int .u32 a), .lit (.int .u32 b), .lit (.int .i64 c)]) :
    cs = [.int .u32 a, .int .u32 b, .int .i64 c] := by
  obtain ⟨xs, n, _, rfl, hl, hlen, hf⟩ := DataW.trod_struct Tryd.underlying121 h
  rw [reg_cells] at hl
  obtain ⟨v0, v1, v2, rfl⟩ := len3 hl
  obtain ⟨y0, y1, y2, rfl⟩ := len3 hlen
  have h0 : DataW.trod enc Tryd.prog w base sp held n 22 (([v0, v1, v2].drop 0).take (Tryd.prog.cellsOf 22)) = some y0 := hf 0 _ rfl
  have h1 : DataW.trod enc Tryd.prog w base sp held n 22 (([v0, v1, v2].drop 1).take (Tryd.prog.cellsOf 22)) = some y1 := hf 1 _ rfl
  have h2 : DataW.trod enc Tryd.prog w base sp held n 3 (([v0, v1, v2].drop 2).take (Tryd.prog.cellsOf 3)) = some y2 := hf 2 _ rfl
  rw [u32_cells] at h0 h1
  rw [int_cells] at h2
  obtain ⟨n0, c0, d0, _⟩ := DataW.trod_int Tryd.underlying22 h0
  obtain ⟨n1, c1, d1, _⟩ := DataW.trod_int Tryd.underlying22 h1
  obtain ⟨n2, c2, d2, _⟩ := DataW.trod_int Tryd.underlying3 h2
  simp at c0 c1 c2
  subst c0 c1 c2 d0 d1 d2
  simpa using hx

theorem reg_of_met {W : World} (h : laidMet Tryd.prog [("pinnace/bus.regions", Rows.laid_pinnace_bus_regions)] W) : RegAt W := by
  obtain ⟨ps, ⟨g', t', cs, fuel, p, q, hg', ht', hvar, hd, _, _⟩, _⟩ := h
  obtain rfl := Option.some.inj (reg_named.symm.trans hg')
  obtain rfl := Option.some.inj (reg_type.symm.trans ht')
  obtain ⟨xs, m, _, hx, hl, hlen, hf⟩ := DataW.trod_array Tryd.underlying141 hd
  rw [reg_cells] at hf
  rw [regs_cells] at hl
  have hxs : xs.map (·.1) = _ := (DataW.agg.inj (congrArg Prod.fst hx)).symm
  have hcell : ∀ i, i < 24 → cs[i]? = regRow[i]? := by
    intro i hi
    have get : ∀ (j : Nat) (a b c : Int), j < 8 → (xs.map (·.1))[j]? = some (.agg [.lit (.int .u32 a), .lit (.int .u32 b), .lit (.int .i64 c)]) → cs[j * 3]? = some (.int .u32 a) ∧ cs[j * 3 + 1]? = some (.int .u32 b) ∧ cs[j * 3 + 2]? = some (.int .i64 c) := by
      intro j a b c hj hm
      simp only [List.getElem?_map, Option.map_eq_some_iff] at hm
      obtain ⟨x, hx1, hx2⟩ := hm
      have hfj := hf j hj
      rw [hx1] at hfj
      have e := triple_of_trod hfj hx2
      have e0 := congrArg (·[0]?) e
      have e1 := congrArg (·[1]?) e
      have e2 := congrArg (·[2]?) e
      simp at e0 e1 e2
      exact ⟨e0, e1, e2⟩
    obtain ⟨a0, b0, c0⟩ := get 0 0 0 0 (by omega) (by rw [hxs]; rfl)
    obtain ⟨a1, b1, c1⟩ := get 1 33554432 65536 4 (by omega) (by rw [hxs]; rfl)
    obtain ⟨a2, b2, c2⟩ := get 2 201326592 4194304 4 (by omega) (by rw [hxs]; rfl)
    obtain ⟨a3, b3, c3⟩ := get 3 268435456 8 1 (by omega) (by rw [hxs]; rfl)
    obtain ⟨a4, b4, c4⟩ := get 4 268500992 256 4 (by omega) (by rw [hxs]; rfl)
    obtain ⟨a5, b5, c5⟩ := get 5 268566528 512 4 (by omega) (by rw [hxs]; rfl)
    obtain ⟨a6, b6, c6⟩ := get 6 268632064 512 4 (by omega) (by rw [hxs]; rfl)
    obtain ⟨a7, b7, c7⟩ := get 7 2147483648 0 0 (by omega) (by rw [hxs]; rfl)
    have : i = 0 ∨ i = 1 ∨ i = 2 ∨ i = 3 ∨ i = 4 ∨ i = 5 ∨ i = 6 ∨ i = 7 ∨ i = 8 ∨ i = 9 ∨ i = 10 ∨ i = 11 ∨ i = 12 ∨ i = 13 ∨ i = 14 ∨ i = 15 ∨ i = 16 ∨ i = 17 ∨ i = 18 ∨ i = 19 ∨ i = 20 ∨ i = 21 ∨ i = 22 ∨ i = 23 := by omega
    rcases this with rfl | rfl | rfl | rfl | rfl | rfl | rfl | rfl | rfl | rfl | rfl | rfl | rfl | rfl | rfl | rfl | rfl | rfl | rfl | rfl | rfl | rfl | rfl | rfl
    · exact a0.trans rfl
    · exact b0.trans rfl
    · exact c0.trans rfl
    · exact a1.trans rfl
    · exact b1.trans rfl
    · exact c1.trans rfl
    · exact a2.trans rfl
    · exact b2.trans rfl
    · exact c2.trans rfl
    · exact a3.trans rfl
    · exact b3.trans rfl
    · exact c3.trans rfl
    · exact a4.trans rfl
    · exact b4.trans rfl
    · exact c4.trans rfl
    · exact a5.trans rfl
    · exact b5.trans rfl
    · exact c5.trans rfl
    · exact a6.trans rfl
    · exact b6.trans rfl
    · exact c6.trans rfl
    · exact a7.trans rfl
    · exact b7.trans rfl
    · exact c7.trans rfl
  have hc : ∀ i, i < 24 → W.cell? ⟨1, i, none⟩ = regRow[i]? := fun i hi => by rw [World.var?_cell reg_named hvar i]; exact hcell i hi
  exact ⟨block_lt_of_cell (a := ⟨1, 0, none⟩) (hc 0 (by omega)), hc⟩

theorem err_of_laid {W : World} (h : laidMetH Tryd.prog [("errors.errorType", Rows.laid_errors_errorType)] W) : ErrAt W := by
  have h' : laidMet Tryd.prog [] W ∧ handlesMet Tryd.prog [("errors.errorType", Rows.laid_errors_errorType)] W := h
  exact err_of_handles h'.2 (List.mem_singleton.2 rfl)
theorem errbus_of_laid {W : World} (h : laidMetH Tryd.prog [("errors.errorType", Rows.laid_errors_errorType), ("pinnace/bus.regions", Rows.laid_pinnace_bus_regions)] W) : ErrAt W ∧ RegAt W := by
  have h' : laidMet Tryd.prog [("pinnace/bus.regions", Rows.laid_pinnace_bus_regions)] W ∧ handlesMet Tryd.prog [("errors.errorType", Rows.laid_errors_errorType)] W := h
  exact ⟨err_of_handles h'.2 (List.mem_singleton.2 rfl), reg_of_met h'.1⟩
theorem taberr_of_laid {W : World} (h : laidMetH Tryd.prog [("math/bits.deBruijn32tab", Rows.laid_math_bits_deBruijn32tab), ("errors.errorType", Rows.laid_errors_errorType)] W) : ErrAt W ∧ Tab32 W := by
  have h' : laidMet Tryd.prog [("math/bits.deBruijn32tab", Rows.laid_math_bits_deBruijn32tab)] W ∧ handlesMet Tryd.prog [("errors.errorType", Rows.laid_errors_errorType)] W := h
  exact ⟨err_of_handles h'.2 (List.mem_singleton.2 rfl), tab32_of_met h'.1⟩
end Go.Proofs.YtenafjdlaefepaaDoor
