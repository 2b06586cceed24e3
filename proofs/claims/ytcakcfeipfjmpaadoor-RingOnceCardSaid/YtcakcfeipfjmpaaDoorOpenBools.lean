/-
Opening an argument that is a slice of bool: its cells, as they stay while the call runs.
No condition.
-/
import Derived.Test.YtcakcfeipfjmpaaDoorOpen
import Derived.Deep.Slices
namespace Go.Proofs.YtcakcfeipfjmpaaDoor
open Go.ChangeShapes Go.WideShapes Go.RowKit

def BoolsArg (w : World) (p : Option Addr) (n : Nat) : Prop := ∀ k, k < n → ∃ (b o : Nat) (v : Bool), p = some ⟨b, o, none⟩ ∧ ∀ W, Below w.heap.size w W → W.cell? ⟨b, o + k, none⟩ = some (.bool v)
theorem open_boolsarg {H : Type} {enc : TypeId × Value → H} {P : Program} {w : World} {r : Reach} {b0 : Nat} {t e : TypeId} {v : Value} {d : DataW H} {ps : List MemPlace}
    (ht : P.underlying t = some (.slice e)) (he : P.underlying e = some .bool) (hce : P.cellsOf e = 1)
    (hval : Value.okWide P w r b0 t v) (hd : DataW.Trod enc P w 0 (fun _ => true) true t v d ps) :
    ∃ (p : Option Addr) (n cap : Nat), v = .slice p n cap ∧ n ≤ cap ∧ cap ≤ maxLen ∧ BoolsArg w p n := by
  obtain ⟨a, len, cap, rfl⟩ := okWide_slice ht hval
  obtain ⟨fuel, hf⟩ := hd
  rcases Go.Deep.open_slice ht hf with ⟨hcs, _⟩ | ⟨a', len', cap', m, n, D, Pl, hcs, _, hl, hm, hmm, _, hx⟩
  · simp [Value.cells] at hcs
    obtain ⟨rfl, rfl, rfl⟩ := hcs
    exact ⟨none, 0, 0, rfl, by omega, by omega, fun k hk => absurd hk (by omega)⟩
  · simp [Value.cells] at hcs
    obtain ⟨rfl, rfl, rfl⟩ := hcs
    refine ⟨some a', len, cap, rfl, hl, hm, fun k hk => ?_⟩
    simp only [if_true] at hmm
    have one : ∀ k, k < len → ∃ x : Bool, w.cell? ((a'.add (k * 1)).add 0) = some (.bool x) := fun k hk => by
      obtain ⟨cs', h1, h2⟩ := hx k (by omega)
      rw [hce] at h1
      obtain ⟨_, hlen, hcell⟩ := World.cells?_some h1
      obtain ⟨x, rfl, _⟩ := DataW.trod_bool he h2
      exact ⟨x, (hcell 0 (by omega)).trans rfl⟩
    obtain ⟨b, o, spot⟩ := a'
    have hs : spot = none := by
      obtain ⟨x, h0⟩ := one 0 (by omega)
      have := World.cell?_spot h0
      simpa [Addr.add] using this
    subst hs
    obtain ⟨x, c0⟩ := one k hk
    rw [add_plain, add_plain] at c0
    simp only [Nat.add_zero, Nat.mul_one] at c0
    have hb := World.block_lt_of_cell? _ _ c0
    exact ⟨b, o, x, rfl, fun W hW => (hW.cell hb).trans c0⟩
end Go.Proofs.YtcakcfeipfjmpaaDoor
