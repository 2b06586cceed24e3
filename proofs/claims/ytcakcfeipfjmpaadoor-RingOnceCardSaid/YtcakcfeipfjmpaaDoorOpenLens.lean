/-
Opening an argument that is a slice of int: its cells, as they stay while the call runs.
No condition.
-/
import Derived.Test.YtcakcfeipfjmpaaDoorOpen
import Derived.Deep.Slices
namespace Go.Proofs.YtcakcfeipfjmpaaDoor
open Go.ChangeShapes Go.WideShapes Go.RowKit

def IntsAt (w : World) (p : Option Addr) (n : Nat) : Prop := ∀ k, k < n → ∃ (b o : Nat) (K : Int), p = some ⟨b, o, none⟩ ∧ -9223372036854775808 ≤ K ∧ K ≤ 9223372036854775807 ∧
  ∀ W, Below w.heap.size w W → W.cell? ⟨b, o + k, none⟩ = some (.int .i64 K)
theorem ints_wf_i64 {n : Int} (h : (Lit.int .i64 n).wf = true) : -9223372036854775808 ≤ n ∧ n ≤ 9223372036854775807 := by
  simp [Lit.wf, IntKind.min, IntKind.max, IntKind.signed, IntKind.bits] at h
  exact ⟨by omega, by omega⟩
theorem open_ints {H : Type} {enc : TypeId × Value → H} {P : Program} {w : World} {r : Reach} {b0 : Nat} {t e : TypeId} {v : Value} {d : DataW H} {ps : List MemPlace}
    (ht : P.underlying t = some (.slice e)) (he : P.underlying e = some (.int .i64)) (hce : P.cellsOf e = 1)
    (hval : Value.okWide P w r b0 t v) (hd : DataW.Trod enc P w 0 (fun _ => true) true t v d ps) :
    ∃ (p : Option Addr) (n cap : Nat), v = .slice p n cap ∧ n ≤ cap ∧ cap ≤ maxLen ∧ IntsAt w p n := by
  obtain ⟨a, len, cap, rfl⟩ := okWide_slice ht hval
  obtain ⟨fuel, hf⟩ := hd
  rcases Go.Deep.open_slice ht hf with ⟨hcs, _⟩ | ⟨a', len', cap', m, n, D, Pl, hcs, _, hl, hm, hmm, _, hx⟩
  · simp [Value.cells] at hcs
    obtain ⟨rfl, rfl, rfl⟩ := hcs
    exact ⟨none, 0, 0, rfl, by omega, by omega, fun k hk => absurd hk (by omega)⟩
  · simp [Value.cells] at hcs
    obtain ⟨rfl, rfl, rfl⟩ := hcs
    refine ⟨some a', len, cap, rfl, hl, hm, fun k hk => ?_⟩
    simp only [if_true] at hmm
    have get : ∀ j, j < len → ∃ K : Int, w.cell? (a'.add (j * 1)) = some (.int .i64 K) ∧ -9223372036854775808 ≤ K ∧ K ≤ 9223372036854775807 := fun j hj => by
      obtain ⟨cs', h1, h2⟩ := hx j (by omega)
      rw [hce] at h1
      obtain ⟨_, hlen, hcell⟩ := World.cells?_some h1
      match cs', hlen with
      | [c0], _ =>
        obtain ⟨K, e0, _, w0⟩ := DataW.trod_int he h2
        simp at e0
        subst e0
        have c0 := hcell 0 (by omega)
        obtain ⟨k1, k2⟩ := ints_wf_i64 w0
        refine ⟨K, ?_, k1, k2⟩
        have e : (a'.add (j * 1)).add 0 = a'.add (j * 1) := by simp [Addr.add]
        rw [e] at c0
        exact c0.trans rfl
    obtain ⟨b, o, spot⟩ := a'
    have hs : spot = none := by
      obtain ⟨K0, g0, _⟩ := get 0 (by omega)
      have := World.cell?_spot g0
      simpa [Addr.add] using this
    subst hs
    obtain ⟨K, c0, k1, k2⟩ := get k hk
    rw [add_plain, Nat.mul_one] at c0
    have hb := World.block_lt_of_cell? _ _ c0
    exact ⟨b, o, K, rfl, k1, k2, fun W hW => (hW.cell hb).trans c0⟩
end Go.Proofs.YtcakcfeipfjmpaaDoor
