/-
Opening an argument that is a slice of slices of bytes: each frame's bytes, as they stay while the call runs.
No condition.
-/
import Derived.Test.YtcbjlpkkebcmjaaDoorG4
import Derived.Test.YtcbjlpkkebcmjaaDoorG2
namespace Go.Proofs.YtcbjlpkkebcmjaaDoor
open Go.ChangeShapes Go.WideShapes Go.RowKit

theorem bytes_of_trod {H : Type} {enc : TypeId × Value → H} {P : Program} {w : World} {base : Nat} {spare : Nat → Bool} {held : Bool} {fuel : Nat} {t e : TypeId} {v : Value} {x : DataW H × List MemPlace}
    (ht : P.underlying t = some (.slice e)) (he : P.underlying e = some (.int .u8)) (hce : P.cellsOf e = 1) (h : DataW.trod enc P w base spare held fuel t [v] = some x) :
    ∃ (p : Option Addr) (l : List UInt8) (cap : Nat), v = .slice p l.length cap ∧ l.length ≤ cap ∧ cap ≤ maxLen ∧ BytesLie w p l := by
  rcases Go.Deep.open_slice1 ht hce h with ⟨hcs, _⟩ | ⟨a, len, cap, m, n, V, D, Pl, hcs, _, hl, hm, hmm, _, hx⟩
  · simp at hcs
    subst hcs
    exact ⟨none, [], 0, rfl, by simp, by omega, fun h => absurd rfl h⟩
  · simp at hcs
    subst hcs
    have hlm : len ≤ m := by rw [hmm]; split <;> omega
    have get : ∀ j, ∃ x : UInt8, j < len → w.cell? (a.add j) = some (B8 x) := fun j => by
      by_cases hj : j < len
      · obtain ⟨h1, h2⟩ := hx j (by omega)
        obtain ⟨K, e0, _, w0⟩ := DataW.trod_int he h2
        simp at e0
        obtain ⟨x, rfl⟩ := bytes_wf_u8 w0
        exact ⟨x, fun _ => by rw [h1, e0]; rfl⟩
      · exact ⟨0, fun h => absurd h hj⟩
    obtain ⟨f, hfx⟩ := Classical.axiomOfChoice get
    obtain ⟨b, o, spot⟩ := a
    refine ⟨some ⟨b, o, spot⟩, (List.range len).map f, cap, by simp, by simpa using hl, hm, fun hne => ?_⟩
    have hl0 : 0 < len := by
      rcases Nat.eq_zero_or_pos len with h | h
      · subst h; exact absurd rfl hne
      · exact h
    have hs : spot = none := by
      have := World.cell?_spot (hfx 0 hl0)
      simpa [Addr.add] using this
    subst hs
    have hc0 := hfx 0 hl0
    rw [add_plain] at hc0
    have hb := World.block_lt_of_cell? _ _ hc0
    refine ⟨b, o, rfl, hb, fun W hW j x hj => ?_⟩
    have hj' : j < len := by have := (List.getElem?_eq_some_iff.1 hj).1; simpa using this
    have e : f j = x := by simpa [hj'] using hj
    have c := hfx j hj'
    rw [add_plain, e] at c
    exact (hW.cell (p := ⟨b, o + j, none⟩) hb).trans c
/-- Frames that lie there while the call runs. -/
def FramesLie (w : World) (p : Option Addr) (n : Nat) : Prop := ∀ k, k < n → ∃ (b o : Nat) (fp : Option Addr) (l : List UInt8) (cap : Nat), p = some ⟨b, o, none⟩ ∧ l.length ≤ cap ∧ cap ≤ maxLen ∧ BytesLie w fp l ∧ ∀ W, Below w.heap.size w W → W.cell? ⟨b, o + k, none⟩ = some (.slice fp l.length cap)
theorem open_frames {H : Type} {enc : TypeId × Value → H} {P : Program} {w : World} {r : Reach} {b0 : Nat} {t e u : TypeId} {v : Value} {d : DataW H} {ps : List MemPlace}
    (ht : P.underlying t = some (.slice e)) (he : P.underlying e = some (.slice u)) (hu : P.underlying u = some (.int .u8)) (hce : P.cellsOf e = 1) (hcu : P.cellsOf u = 1)
    (hval : Value.okWide P w r b0 t v) (hd : DataW.Trod enc P w 0 (fun _ => true) true t v d ps) :
    ∃ (p : Option Addr) (n cap : Nat), v = .slice p n cap ∧ n ≤ cap ∧ cap ≤ maxLen ∧ FramesLie w p n := by
  obtain ⟨a, len, cap, rfl⟩ := okWide_slice ht hval
  obtain ⟨fuel, hf⟩ := hd
  rcases Go.Deep.open_slice1 ht hce hf with ⟨hcs, _⟩ | ⟨a', len', cap', m, n, V, D, Pl, hcs, _, hl, hm, hmm, _, hx⟩
  · simp [Value.cells] at hcs
    obtain ⟨rfl, rfl, rfl⟩ := hcs
    exact ⟨none, 0, 0, rfl, by omega, by omega, fun k hk => absurd hk (by omega)⟩
  · simp [Value.cells] at hcs
    obtain ⟨rfl, rfl, rfl⟩ := hcs
    simp only [if_true] at hmm
    obtain ⟨b, o, spot⟩ := a'
    refine ⟨some ⟨b, o, spot⟩, len, cap, rfl, hl, hm, fun k hk => ?_⟩
    have hs : spot = none := by
      obtain ⟨h1, h2⟩ := hx 0 (by omega)
      obtain ⟨p, l, c, hV, _⟩ := bytes_of_trod he hu hcu h2
      rw [hV] at h1
      have := World.cell?_spot h1
      simpa [Addr.add] using this
    subst hs
    obtain ⟨h1, h2⟩ := hx k (by omega)
    obtain ⟨p, l, c, hV, hl2, hc2, hB⟩ := bytes_of_trod he hu hcu h2
    rw [hV, add_plain] at h1
    have hb := World.block_lt_of_cell? _ _ h1
    exact ⟨b, o, p, l, c, rfl, hl2, hc2, hB, fun W hW => (hW.cell (p := ⟨b, o + k, none⟩) hb).trans h1⟩
theorem BytesLie.atL {w W : World} {ao : Option Addr} {l : List UInt8} {g : Nat} {m : Mm} {F : Nat → Prop} (h : BytesLie w ao l) (hl : LawMem w W g m F) : BytesAt W ao l F := fun hne => by
  obtain ⟨b, o, rfl, hb, hc⟩ := h hne
  exact ⟨b, o, rfl, Nat.lt_of_lt_of_le hb hl.fr.size, fun hf => absurd (hl.lo _ hf) (Nat.not_le_of_lt hb), fun j x hj => hc W hl.fr j x hj⟩
end Go.Proofs.YtcbjlpkkebcmjaaDoor
