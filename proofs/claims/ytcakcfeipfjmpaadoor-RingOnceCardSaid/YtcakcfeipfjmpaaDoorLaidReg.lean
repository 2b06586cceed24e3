/-
The listed variable bus.regions alone: a world that meets the row's premise, and what the premise gives a walk.
-/
import Derived.Test.YtcakcfeipfjmpaaDoorLift
import Derived.Test.YtcakcfeipfjmpaaDoorRows
import Derived.Test.YtcakcfeipfjmpaaDoorBusBase
import Derived.Lib.LaidTab
import Derived.OpenShut
import Derived.ChangeSame
namespace Go.Proofs.YtcakcfeipfjmpaaDoor
open Go.ChangeShapes Go.WideShapes Go.RowKit

theorem own : ownKnob Tryd.prog.godebug = none := by kernel_rfl
theorem laidOut : laidOutB Tryd.prog = true := by kernel_rfl
def regionCells : Array Value := #[.int .u32 0, .int .u32 0, .int .i64 0, .int .u32 33554432, .int .u32 65536, .int .i64 4, .int .u32 201326592, .int .u32 4194304, .int .i64 4, .int .u32 268435456, .int .u32 8, .int .i64 1, .int .u32 268500992, .int .u32 256, .int .i64 4,
  .int .u32 268566528, .int .u32 512, .int .i64 4, .int .u32 268632064, .int .u32 512, .int .i64 4, .int .u32 2147483648, .int .u32 0, .int .i64 0]
/-- A world in which bus.regions holds what the text lays. -/
noncomputable def laidWorld (os : Os) : World :=
  let w0 := World.holding Tryd.prog os ⟨#[], #[], []⟩
  let put (cs : Array Value) (o : Obj) : Obj := match o with | .cells _ t frozen => .cells cs t frozen | o => o
  { w0 with heap := w0.heap.modify 1 (put regionCells) }
theorem laid_reg (os : Os) (args : Array Value) : laidMetH Tryd.prog [("pinnace/bus.regions", Rows.laid_pinnace_bus_regions)] ((laidWorld os).forCall (fun _ _ => 0) ⟨#[], args, []⟩).memory :=
  laidMetH_of_parts (laidMet_of_run' 8 (by kernel_rfl) (by kernel_rfl)) (by kernel_rfl)

theorem reg_named : Tryd.prog.globalNamed "pinnace/bus.regions" = some 1 := by kernel_rfl
theorem reg_type : (Tryd.prog.globals[1]?).map (·.type) = some 211 := by kernel_rfl
theorem reg_cells : Tryd.prog.cellsOf 208 = 3 := by kernel_rfl
theorem u32_cells : Tryd.prog.cellsOf 22 = 1 := by kernel_rfl
theorem int_cells : Tryd.prog.cellsOf 3 = 1 := by kernel_rfl
theorem regs_cells : Tryd.prog.cellsOf 211 = 24 := by kernel_rfl
theorem len3 {α : Type} {l : List α} (h : l.length = 3) : ∃ a b c, l = [a, b, c] := by
  match l, h with
  | [a, b, c], _ => exact ⟨a, b, c, rfl⟩
theorem triple_of_trod {H : Type} {enc : TypeId × Value → H} {w : World} {fuel base : Nat} {sp : Nat → Bool} {held : Bool} {cs : List Value} {x : DataW H × List MemPlace} {a b c : Int}
    (h : DataW.trod enc Tryd.prog w base sp held fuel 208 cs = some x) (hx : x.1 = .agg [.lit (.int .u32 a), .lit (.int .u32 b), .lit (.int .i64 c)]) :
    cs = [.int .u32 a, .int .u32 b, .int .i64 c] := by
  obtain ⟨xs, n, _, rfl, hl, hlen, hf⟩ := DataW.trod_struct Tryd.underlying208 h
  rw [reg_cells] at hl
  obtain ⟨v0, v1, v2, rfl⟩ := len3 hl
  obtain ⟨y0, y1, y2, rfl⟩ := len3 hlen
  have h0 : DataW.trod enc Tryd.prog w base sp held n 22 (([v0, v1, v2].drop 0).take (Tryd.prog.cellsOf 22)) = some y0 := hf 0 _ rfl
  have h1 : DataW.trod enc Tryd.prog w base sp held n 22 (([v0, v1, v2].drop 1).take (Tryd.prog.cellsOf 22)) = some y1 := hf 1 _ rfl
  have h2 : DataW.trod enc Tryd.prog w base sp held n 3 (([v0, v1, v2].drop 2).take (Tryd.prog.cellsOf 3)) = some y2 := hf 2 _ rfl
  rw [u32_cells] at h0 h1
  rw [int_cells] at h2
  obtain ⟨n0, c0, d0, _⟩ := DataW.trod_int Tryd.underlying22 h0
  obtain ⟨n1, c1, d1, _⟩ := DataW.trod_int Tryd.underlying22 h1
  obtain ⟨n2, c2, d2, _⟩ := DataW.trod_int Tryd.underlying3 h2
  simp at c0 c1 c2
  subst c0 c1 c2 d0 d1 d2
  simpa using hx

theorem reg_of_met {W : World} (h : laidMet Tryd.prog [("pinnace/bus.regions", Rows.laid_pinnace_bus_regions)] W) : RegAt W := by
  obtain ⟨ps, ⟨g', t', cs, fuel, p, q, hg', ht', hvar, hd, _, _⟩, _⟩ := h
  obtain rfl := Option.some.inj (reg_named.symm.trans hg')
  obtain rfl := Option.some.inj (reg_type.symm.trans ht')
  obtain ⟨xs, m, _, hx, hl, hlen, hf⟩ := DataW.trod_array Tryd.underlying211 hd
  rw [reg_cells] at hf
  rw [regs_cells] at hl
  have hxs : xs.map (·.1) = _ := (DataW.agg.inj (congrArg Prod.fst hx)).symm
  have hcell : ∀ i, i < 24 → cs[i]? = regRow[i]? := by
    intro i hi
    have get : ∀ (j : Nat) (a b c : Int), j < 8 → (xs.map (·.1))[j]? = some (.agg [.lit (.int .u32 a), .lit (.int .u32 b), .lit (.int .i64 c)]) → cs[j * 3]? = some (.int .u32 a) ∧ cs[j * 3 + 1]? = some (.int .u32 b) ∧ cs[j * 3 + 2]? = some (.int .i64 c) := by
      intro j a b c hj hm
      simp only [List.getElem?_map, Option.map_eq_some_iff] at hm
      obtain ⟨x, hx1, hx2⟩ := hm
      have hfj := hf j hj
      rw [hx1] at hfj
      have e := triple_of_trod hfj hx2
      have e0 := congrArg (·[0]?) e
      have e1 := congrArg (·[1]?) e
      have e2 := congrArg (·[2]?) e
      simp at e0 e1 e2
      exact ⟨e0, e1, e2⟩
    obtain ⟨a0, b0, c0⟩ := get 0 0 0 0 (by omega) (by rw [hxs]; rfl)
    obtain ⟨a1, b1, c1⟩ := get 1 33554432 65536 4 (by omega) (by rw [hxs]; rfl)
    obtain ⟨a2, b2, c2⟩ := get 2 201326592 4194304 4 (by omega) (by rw [hxs]; rfl)
    obtain ⟨a3, b3, c3⟩ := get 3 268435456 8 1 (by omega) (by rw [hxs]; rfl)
    obtain ⟨a4, b4, c4⟩ := get 4 268500992 256 4 (by omega) (by rw [hxs]; rfl)
    obtain ⟨a5, b5, c5⟩ := get 5 268566528 512 4 (by omega) (by rw [hxs]; rfl)
    obtain ⟨a6, b6, c6⟩ := get 6 268632064 512 4 (by omega) (by rw [hxs]; rfl)
    obtain ⟨a7, b7, c7⟩ := get 7 2147483648 0 0 (by omega) (by rw [hxs]; rfl)
    have : i = 0 ∨ i = 1 ∨ i = 2 ∨ i = 3 ∨ i = 4 ∨ i = 5 ∨ i = 6 ∨ i = 7 ∨ i = 8 ∨ i = 9 ∨ i = 10 ∨ i = 11 ∨ i = 12 ∨ i = 13 ∨ i = 14 ∨ i = 15 ∨ i = 16 ∨ i = 17 ∨ i = 18 ∨ i = 19 ∨ i = 20 ∨ i = 21 ∨ i = 22 ∨ i = 23 := by omega
    rcases this with rfl | rfl | rfl | rfl | rfl | rfl | rfl | rfl | rfl | rfl | rfl | rfl | rfl | rfl | rfl | rfl | rfl | rfl | rfl | rfl | rfl | rfl | rfl | rfl
    · exact a0.trans rfl
    · exact b0.trans rfl
    · exact c0.trans rfl
    · exact a1.trans rfl
    · exact b1.trans rfl
    · exact c1.trans rfl
    · exact a2.trans rfl
    · exact b2.trans rfl
    · exact c2.trans rfl
    · exact a3.trans rfl
    · exact b3.trans rfl
    · exact c3.trans rfl
    · exact a4.trans rfl
    · exact b4.trans rfl
    · exact c4.trans rfl
    · exact a5.trans rfl
    · exact b5.trans rfl
    · exact c5.trans rfl
    · exact a6.trans rfl
    · exact b6.trans rfl
    · exact c6.trans rfl
    · exact a7.trans rfl
    · exact b7.trans rfl
    · exact c7.trans rfl
  have hc : ∀ i, i < 24 → W.cell? ⟨1, i, none⟩ = regRow[i]? := fun i hi => by rw [World.var?_cell reg_named hvar i]; exact hcell i hi
  exact ⟨block_lt_of_cell (a := ⟨1, 0, none⟩) (hc 0 (by omega)), hc⟩

theorem reg_of_laid {W : World} (h : laidMetH Tryd.prog [("pinnace/bus.regions", Rows.laid_pinnace_bus_regions)] W) : RegAt W :=
  reg_of_met (show laidMet Tryd.prog [("pinnace/bus.regions", Rows.laid_pinnace_bus_regions)] W from h)
end Go.Proofs.YtcakcfeipfjmpaaDoor
