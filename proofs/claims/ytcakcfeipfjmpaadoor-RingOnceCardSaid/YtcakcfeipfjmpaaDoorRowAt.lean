/-
A row in a block of its own: its cells by a function.
No condition.
-/
import Derived.Test.YtcakcfeipfjmpaaDoorAppend
import Derived.Test.YtcakcfeipfjmpaaDoorMemRead
namespace Go.Proofs.YtcakcfeipfjmpaaDoor
open Go.RowKit

def Row (W : World) (b : Nat) (T : TypeId) (n : Nat) (h : Nat → Value) : Prop := ∃ C, W.heap[b]? = some (.cells C T (0, 0)) ∧ n ≤ C.size ∧ ∀ i, i < n → C[i]? = some (h i)
theorem Row.cell {W : World} {b n : Nat} {T : TypeId} {h : Nat → Value} (r : Row W b T n h) {i : Nat} (hi : i < n) : W.cell? ⟨b, i, none⟩ = some (h i) := by
  obtain ⟨C, hc, _, hg⟩ := r
  exact (cell_of_row _ _ i _ _ _ hc).trans (hg i hi)
theorem Row.fz {W : World} {b n : Nat} {T : TypeId} {h : Nat → Value} (r : Row W b T n h) (i : Nat) : W.frozen? ⟨b, i, none⟩ = false := by
  obtain ⟨C, hc, _, _⟩ := r
  exact frozen_of_row _ _ i _ _ hc
theorem Row.lt {W : World} {b n : Nat} {T : TypeId} {h : Nat → Value} (r : Row W b T n h) : b < W.heap.size := by
  obtain ⟨C, hc, _, _⟩ := r
  exact lt_heap hc
theorem Row.keep {W W' : World} {b n : Nat} {T : TypeId} {h : Nat → Value} (r : Row W b T n h) (e : W'.heap[b]? = W.heap[b]?) : Row W' b T n h := by
  obtain ⟨C, hc, h1, h2⟩ := r
  exact ⟨C, e.trans hc, h1, h2⟩
theorem Row.below {W W' : World} {b n : Nat} {T : TypeId} {h : Nat → Value} (r : Row W b T n h) (hb : Below W.heap.size W W') : Row W' b T n h := r.keep (hb.block _ r.lt)
theorem Row.step {W W' : World} {b n : Nat} {T : TypeId} {h : Nat → Value} {F F' : Nat → Prop} (r : Row W b T n h) (hs : MemStep F F' W W') (hf : ¬ F b) : Row W' b T n h := r.keep (hs.kx.block b r.lt hf)
theorem Row.kx {W W' : World} {b n : Nat} {T : TypeId} {h : Nat → Value} {X : Nat → Prop} (r : Row W b T n h) (hs : KX X W W') (hf : ¬ X b) : Row W' b T n h := r.keep (hs.block b r.lt hf)
theorem Row.congr {W : World} {b n : Nat} {T : TypeId} {h k : Nat → Value} (r : Row W b T n h) (e : ∀ i, i < n → h i = k i) : Row W b T n k := by
  obtain ⟨C, hc, h1, h2⟩ := r
  exact ⟨C, hc, h1, fun i hi => (h2 i hi).trans (by rw [e i hi])⟩
theorem Row.poke {W : World} {b n : Nat} {T : TypeId} {h : Nat → Value} (r : Row W b T n h) {j : Nat} (hj : j < n) (x : Value) : Row (W.setCell ⟨b, j, none⟩ x) b T n (fun i => if i = j then x else h i) := by
  obtain ⟨C, hc, h1, h2⟩ := r
  refine ⟨_, set_cells hc, by simpa using h1, fun i hi => ?_⟩
  rw [set_get (by omega) (h2 i hi)]
theorem Row.of_owns {W : World} {base n : Nat} {T : TypeId} {v : Value} {xs : List Value} {h : Nat → Value} (o : W.ownsRow base T 1 v n xs) (hn : 0 < n) (e : ∀ i, i < n → xs[i]? = some (h i)) : ∃ b c, v = .slice (some ⟨b, 0, none⟩) n c ∧ n ≤ c ∧ base ≤ b ∧ Row W b T n h := by
  rcases o.2 with ⟨rfl, rfl⟩ | ⟨g, cap, cur, rfl, hg, hh, hc, hr⟩
  · omega
  · refine ⟨g, cap, rfl, hc, hg, cur, hh, ?_, fun i hi => ?_⟩
    · have h0 := o.cellAt (n - 1) (by omega)
      rw [e _ (by omega), cell_of_row _ _ _ _ _ _ hh] at h0
      have := (Array.getElem?_eq_some_iff.1 h0).1
      omega
    · rw [← cell_of_row _ _ i _ _ _ hh, o.cellAt i (by omega), e i hi]
def rowL (h : Nat → Value) (n : Nat) : List Value := (List.range n).map h
theorem rowL_get (h : Nat → Value) (n i : Nat) (hi : i < n) : (rowL h n)[i]? = some (h i) := by simp [rowL, hi]
theorem rowL_length (h : Nat → Value) (n : Nat) : (rowL h n).length = n := by simp [rowL]
theorem Row.news {W : World} {b n : Nat} {T : TypeId} {h : Nat → Value} (r : Row W b T n h) : ∀ j u, (rowL h n)[j]? = some u → W.cell? ((⟨b, 0, none⟩ : Addr).add j) = some u := by
  intro j u hu
  have hj : j < n := by have := (List.getElem?_eq_some_iff.1 hu).1; rwa [rowL_length] at this
  rw [rowL_get h n j hj] at hu
  rw [← Option.some.inj hu, Addr.add_lit, Nat.zero_add]
  exact r.cell hj
def cellU (f : Nat → UInt8) : Nat → Value := fun i => B8 (f i)
end Go.Proofs.YtcakcfeipfjmpaaDoor
