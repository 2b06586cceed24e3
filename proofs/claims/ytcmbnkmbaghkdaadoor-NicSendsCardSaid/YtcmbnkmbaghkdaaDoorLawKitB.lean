/-
Small words for laws over memory.
No condition.
-/
import Derived.Test.YtcmbnkmbaghkdaaDoorG5
namespace Go.Proofs.YtcmbnkmbaghkdaaDoor
open Go.RowKit

theorem PairsL.below {w W : World} {p : Option Addr} {l : List (Nat × Nat)} (h : PairsL w p l) (hb : Below w.heap.size w W) : PairsL W p l := by
  intro k A B hk
  obtain ⟨h1, h2, b, o, hp, hc⟩ := h k A B hk
  exact ⟨h1, h2, b, o, hp, fun W' hW' => hc W' (hb.trans (hW'.mono hb.size))⟩
theorem law_read {g : Nat} {m : Mm} {F : Nat → Prop} {w : World} (h : RamIs w g m F) (a n : Nat) (ai ni : Int) (ea : ai = a) (en : ni = n) (ha : a < 4294967296) (hs : a + n ≤ 4096 * m.n) :
    Calls Tryd.prog 21 #[.pointer (some ⟨g, 0, none⟩), .int .u32 ai, .int .i64 ni] w fun e w' => ∃ ao c F', e = .returned (.tuple #[.slice ao (cut m.f a n).length c, .nilIface]) ∧ RamIs w' g m F' ∧ MemStep F F' w w' ∧ BytesAt w' ao (cut m.f a n) F' := by
  subst ea en
  refine (mem_Read_ok h a n ha hs).mono ?_
  rintro e w' ⟨v, F', rfl, h1, h2, h3, h4⟩
  obtain ⟨ao, cv, rfl, hcv, hln, hba⟩ := BytesAt.of_owns h3 h4
  exact ⟨ao, cv, F', by rw [cut_length], h1, h2, hba⟩
/-- All bytes of the document's memory. -/
theorem RefF.bytes {W : World} {B : Nat} {v : Value} {m : Mm} {F : Nat → Prop} (h : RefF W B v m F) : ∃ (b1 c1 b2 c2 : Nat), v = .agg (refC b1 (cut m.f 0 (4096 * m.n)).length c1 b2 m.n c2 m.wr) ∧ BytesAt W (some ⟨b1, 0, none⟩) (cut m.f 0 (4096 * m.n)) F := by
  obtain ⟨n1, n2, b1, c1, b2, c2, ⟨rfl, hcc⟩, h1, h2, h3, h4, h5, h6⟩ := h
  refine ⟨b1, c1, b2, c2, by rw [cut_length], fun _ => ⟨b1, 0, rfl, h5.lt, h3, fun j x hj => ?_⟩⟩
  have hl : j < 4096 * m.n := by have := (List.getElem?_eq_some_iff.1 hj).1; rwa [cut_length] at this
  rw [cut_get _ _ _ _ hl, Nat.zero_add] at hj
  obtain rfl := Option.some.inj hj
  rw [Nat.zero_add]
  exact h5.cell hl
end Go.Proofs.YtcmbnkmbaghkdaaDoor
