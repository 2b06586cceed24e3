/-
Opening an argument that is a slice of bytes: its bytes, as they stay while the call runs.
No condition.
-/
import Derived.Test.YtaifhmmcnekopaaOpen
import Derived.Test.YtaifhmmcnekopaaRam
import Derived.Deep.Slices
namespace Go.Proofs.Ytaifhmmcnekopaa
open Go.ChangeShapes Go.WideShapes Go.RowKit

def BytesLie (w : World) (ao : Option Addr) (l : List UInt8) : Prop := l ≠ [] → ∃ b o, ao = some ⟨b, o, none⟩ ∧ b < w.heap.size ∧ ∀ W, Below w.heap.size w W → ∀ j x, l[j]? = some x → W.cell? ⟨b, o + j, none⟩ = some (B8 x)
theorem bytes_wf_u8 {n : Int} (h : (Lit.int .u8 n).wf = true) : ∃ x : UInt8, n = (x.toNat : Int) := by
  simp [Lit.wf, IntKind.min, IntKind.max, IntKind.signed, IntKind.bits] at h
  refine ⟨UInt8.ofNat n.toNat, ?_⟩
  rw [UInt8.toNat_ofNat']
  omega
theorem open_bytes {H : Type} {enc : TypeId × Value → H} {P : Program} {w : World} {r : Reach} {b0 : Nat} {t e : TypeId} {v : Value} {d : DataW H} {ps : List MemPlace}
    (ht : P.underlying t = some (.slice e)) (he : P.underlying e = some (.int .u8)) (hce : P.cellsOf e = 1)
    (hval : Value.okWide P w r b0 t v) (hd : DataW.Trod enc P w 0 (fun _ => true) true t v d ps) :
    ∃ (p : Option Addr) (l : List UInt8) (cap : Nat), v = .slice p l.length cap ∧ l.length ≤ cap ∧ cap ≤ maxLen ∧ BytesLie w p l := by
  obtain ⟨a, len, cap, rfl⟩ := okWide_slice ht hval
  obtain ⟨fuel, hf⟩ := hd
  rcases Go.Deep.open_slice ht hf with ⟨hcs, _⟩ | ⟨a', len', cap', m, n, D, Pl, hcs, _, hl, hm, hmm, _, hx⟩
  · simp [Value.cells] at hcs
    obtain ⟨rfl, rfl, rfl⟩ := hcs
    exact ⟨none, [], 0, rfl, by simp, by omega, fun h => absurd rfl h⟩
  · simp [Value.cells] at hcs
    obtain ⟨rfl, rfl, rfl⟩ := hcs
    simp only [if_true] at hmm
    have get : ∀ j, ∃ x : UInt8, j < len → w.cell? (a'.add (j * 1)) = some (B8 x) := fun j => by
      by_cases hj : j < len
      · obtain ⟨cs', h1, h2⟩ := hx j (by omega)
        rw [hce] at h1
        obtain ⟨_, hlen, hcell⟩ := World.cells?_some h1
        match cs', hlen with
        | [c0], _ =>
          obtain ⟨K, e0, _, w0⟩ := DataW.trod_int he h2
          simp at e0
          subst e0
          have c0 := hcell 0 (by omega)
          obtain ⟨x, rfl⟩ := bytes_wf_u8 w0
          refine ⟨x, fun _ => ?_⟩
          have e : (a'.add (j * 1)).add 0 = a'.add (j * 1) := by simp [Addr.add]
          rw [e] at c0
          exact c0.trans rfl
      · exact ⟨0, fun h => absurd h hj⟩
    obtain ⟨f, hfx⟩ := Classical.axiomOfChoice get
    obtain ⟨b, o, spot⟩ := a'
    refine ⟨some ⟨b, o, spot⟩, (List.range len).map f, cap, by simp, by simpa using hl, hm, fun hne => ?_⟩
    have hl0 : 0 < len := by
      rcases Nat.eq_zero_or_pos len with h | h
      · subst h; exact absurd rfl hne
      · exact h
    have hs : spot = none := by
      have := World.cell?_spot (hfx 0 hl0)
      simpa [Addr.add] using this
    subst hs
    have hc0 := hfx 0 hl0
    rw [add_plain, Nat.zero_mul] at hc0
    have hb := World.block_lt_of_cell? _ _ hc0
    refine ⟨b, o, rfl, hb, fun W hW j x hj => ?_⟩
    have hj' : j < len := by have := (List.getElem?_eq_some_iff.1 hj).1; simpa using this
    have e : f j = x := by simpa [hj'] using hj
    have c := hfx j hj'
    rw [add_plain, Nat.mul_one, e] at c
    exact (hW.cell (p := ⟨b, o + j, none⟩) hb).trans c
end Go.Proofs.Ytaifhmmcnekopaa
