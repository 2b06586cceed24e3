/-
Opening an argument that is a slice of pairs of uint32: each pair's two cells, as they stay while the call runs.
No condition.
-/
import Derived.Test.YtcakcfeipfjmpaaDoorOpen
import Derived.Deep.Slices
namespace Go.Proofs.YtcakcfeipfjmpaaDoor
open Go.ChangeShapes Go.WideShapes Go.RowKit

/-- The pairs of a slice, at their places; they stay while the call runs. -/
def PairsAt (w : World) (p : Option Addr) (n : Nat) : Prop := ∀ k, k < n → ∃ (b o A B : Nat), p = some ⟨b, o, none⟩ ∧ A < 4294967296 ∧ B < 4294967296 ∧
  ∀ W, Below w.heap.size w W → W.cell? ⟨b, o + k * 2, none⟩ = some (.int .u32 A) ∧ W.cell? ⟨b, o + k * 2 + 1, none⟩ = some (.int .u32 B)
theorem wf_u32 {n : Int} (h : (Lit.int .u32 n).wf = true) : ∃ m : Nat, n = m ∧ m < 4294967296 := by
  simp [Lit.wf, IntKind.min, IntKind.max, IntKind.signed, IntKind.bits] at h
  exact ⟨n.toNat, by omega, by omega⟩
theorem pair_cells_u32 {H : Type} {enc : TypeId × Value → H} {P : Program} {w : World} {base : Nat} {spare : Nat → Bool} {held : Bool} {fuel : Nat} {t e : TypeId} {cs : List Value} {x : DataW H × List MemPlace}
    (ht : P.underlying t = some (.array 2 e)) (he : P.underlying e = some (.int .u32)) (hc : P.cellsOf e = 1) (h2 : P.cellsOf t = 2) (h : DataW.trod enc P w base spare held fuel t cs = some x) :
    ∃ A B : Nat, cs = [.int .u32 A, .int .u32 B] ∧ A < 4294967296 ∧ B < 4294967296 := by
  obtain ⟨xs, m, _, _, hl, hxl, hf⟩ := DataW.trod_array ht h
  rw [h2] at hl
  match cs, hl with
  | [c0, c1], _ =>
    have f0 := hf 0 (by omega)
    have f1 := hf 1 (by omega)
    rw [List.getElem?_eq_getElem (by omega)] at f0 f1
    simp only [hc, Nat.zero_mul, Nat.one_mul, List.drop_zero, List.drop_succ_cons, List.take_succ_cons, List.take_zero] at f0 f1
    obtain ⟨a, e0, _, w0⟩ := DataW.trod_int he f0
    obtain ⟨b, e1, _, w1⟩ := DataW.trod_int he f1
    obtain ⟨A, rfl, hA⟩ := wf_u32 w0
    obtain ⟨B, rfl, hB⟩ := wf_u32 w1
    simp at e0 e1
    subst e0 e1
    exact ⟨A, B, rfl, hA, hB⟩
theorem open_pairs {H : Type} {enc : TypeId × Value → H} {P : Program} {w : World} {r : Reach} {b0 : Nat} {t e u : TypeId} {v : Value} {d : DataW H} {ps : List MemPlace}
    (ht : P.underlying t = some (.slice e)) (he : P.underlying e = some (.array 2 u)) (hu : P.underlying u = some (.int .u32)) (hcu : P.cellsOf u = 1) (hce : P.cellsOf e = 2)
    (hval : Value.okWide P w r b0 t v) (hd : DataW.Trod enc P w 0 (fun _ => true) true t v d ps) :
    ∃ (p : Option Addr) (n cap : Nat), v = .slice p n cap ∧ n ≤ cap ∧ cap ≤ maxLen ∧ PairsAt w p n := by
  obtain ⟨a, len, cap, rfl⟩ := okWide_slice ht hval
  obtain ⟨fuel, hf⟩ := hd
  rcases Go.Deep.open_slice ht hf with ⟨hcs, _⟩ | ⟨a', len', cap', m, n, D, Pl, hcs, _, hl, hm, hmm, _, hx⟩
  · simp [Value.cells] at hcs
    obtain ⟨rfl, rfl, rfl⟩ := hcs
    exact ⟨none, 0, 0, rfl, by omega, by omega, fun k hk => absurd hk (by omega)⟩
  · simp [Value.cells] at hcs
    obtain ⟨rfl, rfl, rfl⟩ := hcs
    refine ⟨some a', len, cap, rfl, hl, hm, fun k hk => ?_⟩
    simp only [if_true] at hmm
    obtain ⟨cs', h1, h2⟩ := hx k (by omega)
    rw [hce] at h1
    obtain ⟨_, hlen, hcell⟩ := World.cells?_some h1
    obtain ⟨A, B, rfl, hA, hB⟩ := pair_cells_u32 he hu hcu hce h2
    have c0 := hcell 0 (by omega)
    have c1 := hcell 1 (by omega)
    obtain ⟨b, o, spot⟩ := a'
    have hs : spot = none := by
      obtain ⟨cs0, g1, g2⟩ := hx 0 (by omega)
      rw [hce] at g1
      obtain ⟨_, _, gcell⟩ := World.cells?_some g1
      obtain ⟨A0, B0, rfl, _, _⟩ := pair_cells_u32 he hu hcu hce g2
      have := World.cell?_spot ((gcell 0 (by omega)).trans (by rfl : _ = some (Value.int .u32 (A0 : Nat))))
      simpa [Addr.add] using this
    subst hs
    rw [add_plain, add_plain] at c0 c1
    simp only [Nat.add_zero] at c0
    have hb := World.block_lt_of_cell? _ _ (c0.trans (by rfl : _ = some (Value.int .u32 (A : Nat))))
    exact ⟨b, o, A, B, rfl, hA, hB, fun W hW => ⟨(hW.cell hb).trans (c0.trans rfl), (hW.cell (p := ⟨b, o + k * 2 + 1, none⟩) hb).trans (c1.trans rfl)⟩⟩
end Go.Proofs.YtcakcfeipfjmpaaDoor
