/-
pinnacelaw12.DmaMoves at any slice of int.
Condition: the table of regions of package bus reads as its text lays it.
-/
import Derived.Test.YtocbfchmngcgkaaDoorDmaMoves
import Derived.Test.YtocbfchmngcgkaaDoorOpenLens
namespace Go.Proofs.YtocbfchmngcgkaaDoor
open Go.RowKit

theorem fold_u64 (x : Int) (q : Int) (h0 : 0 < q) (h1 : q ≤ 1000000) : ∃ k : Nat, (k : Int) < q ∧ wrap64 (1 + wrap64 ((IntKind.u64.wrap x).tmod q)) = ((k + 1 : Nat) : Int) := by
  have hw : 0 ≤ IntKind.u64.wrap x := by rw [IntKind.wrap_u64]; omega
  generalize IntKind.u64.wrap x = y at hw
  have h2 : y.tmod q = y % q := Int.tmod_eq_emod_of_nonneg hw
  have h3 := Int.emod_nonneg y (show q ≠ 0 by omega)
  have h4 := Int.emod_lt_of_pos y h0
  rw [h2]
  generalize y % q = z at h3 h4
  refine ⟨z.toNat, by omega, ?_⟩
  have e1 : wrap64 z = z := by unfold wrap64; omega
  rw [e1]
  unfold wrap64
  omega
theorem lens_of_ints {w : World} {p : Option Addr} {n : Nat} (h : IntsAt w p n) : ∃ ks, LensAt w p n ks := by
  have key : ∀ j, ∃ k : Nat, 1 ≤ k ∧ k ≤ 1000 ∧ (j < n → ∃ (b o : Nat) (K : Int), p = some ⟨b, o, none⟩ ∧ (∀ W, Below w.heap.size w W → W.cell? ⟨b, o + j, none⟩ = some (.int .i64 K)) ∧ wrap64 (1 + wrap64 ((IntKind.u64.wrap K).tmod 1000)) = (k : Int)) := by
    intro j
    by_cases hj : j < n
    · obtain ⟨b, o, K, hp, _, _, hc⟩ := h j hj
      obtain ⟨k, hk, e⟩ := fold_u64 K 1000 (by omega) (by omega)
      exact ⟨k + 1, by omega, by omega, fun _ => ⟨b, o, K, hp, hc, e⟩⟩
    · exact ⟨1, by omega, by omega, fun h => absurd h hj⟩
  obtain ⟨ks, hks⟩ := Classical.axiomOfChoice key
  exact ⟨ks, fun j => (hks j).1, fun j => (hks j).2.1, fun j => (hks j).2.2⟩
theorem law_DmaMoves (p : Option Addr) (n cap : Nat) (w : World) (h : IntsAt w p n) (hr : RegAt w) : Calls Tryd.prog 4 #[.slice p n cap] w fun e w' => e = .returned (.bool true) ∧ Below w.heap.size w w' := by
  obtain ⟨ks, hks⟩ := lens_of_ints h
  exact dma_moves p n cap ks w hr hks
end Go.Proofs.YtocbfchmngcgkaaDoor
