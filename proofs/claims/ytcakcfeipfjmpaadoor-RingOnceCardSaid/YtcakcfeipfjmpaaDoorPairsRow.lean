/-
Words laid from a literal list; a law's memory seen from an earlier world.
No condition.
-/
import Derived.Test.YtcakcfeipfjmpaaDoorBothDef
namespace Go.Proofs.YtcakcfeipfjmpaaDoor
open Go.RowKit

def pairsC (l : List (Nat × Nat)) : Array Value := (l.flatMap fun x => [Value.int .u32 (x.1 : Int), Value.int .u32 (x.2 : Int)]).toArray
theorem pairsC_get (l : List (Nat × Nat)) (k : Nat) (x : Nat × Nat) (h : l[k]? = some x) : (pairsC l)[k * 2]? = some (.int .u32 (x.1 : Int)) ∧ (pairsC l)[k * 2 + 1]? = some (.int .u32 (x.2 : Int)) := by
  unfold pairsC
  simp only [List.getElem?_toArray]
  induction l generalizing k with
  | nil => simp at h
  | cons y t ih =>
    cases k with
    | zero =>
      obtain rfl : y = x := by simpa using h
      simp
    | succ k =>
      have := ih k (by simpa using h)
      rw [show (k + 1) * 2 = k * 2 + 1 + 1 by omega, show k * 2 + 1 + 1 + 1 = (k * 2 + 1) + 1 + 1 by omega]
      simpa using this
theorem pairs_of_row {W : World} {b : Nat} {l : List (Nat × Nat)} {t : TypeId} (h : W.heap[b]? = some (.cells (pairsC l) t (0, 0))) (hb : ∀ (k : Nat) (x : Nat × Nat), l[k]? = some x → x.1 < 4294967296 ∧ x.2 < 4294967296) : PairsL W (some ⟨b, 0, none⟩) l := by
  intro k A B hk
  obtain ⟨h1, h2⟩ := hb k _ hk
  obtain ⟨g1, g2⟩ := pairsC_get l k _ hk
  refine ⟨h1, h2, b, 0, rfl, fun W' hW => ?_⟩
  have hl := lt_heap h
  exact ⟨(hW.cell (p := ⟨b, 0 + k * 2, none⟩) hl).trans ((cell_of_row _ _ _ _ _ _ h).trans (by rw [Nat.zero_add]; exact g1)), (hW.cell (p := ⟨b, 0 + k * 2 + 1, none⟩) hl).trans ((cell_of_row _ _ _ _ _ _ h).trans (by rw [Nat.zero_add]; exact g2))⟩
theorem LawMem.back {w0 w1 W : World} {g : Nat} {m : Mm} {F : Nat → Prop} (h : LawMem w1 W g m F) (hb : Below w0.heap.size w0 w1) : LawMem w0 W g m F :=
  ⟨h.ram, fun k hk => Nat.le_trans hb.size (h.lo k hk), hb.trans (h.fr.mono hb.size)⟩
end Go.Proofs.YtcakcfeipfjmpaaDoor
