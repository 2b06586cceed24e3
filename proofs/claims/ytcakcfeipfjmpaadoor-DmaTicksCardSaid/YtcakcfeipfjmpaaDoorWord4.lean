/-
Words in bytes, the plain laws.
No condition.
-/
import Derived.Test.YtcakcfeipfjmpaaDoorDmaSure
namespace Go.Proofs.YtcakcfeipfjmpaaDoor
open Go.RowKit

def rd4 (f : Nat → UInt8) (a : Nat) : Nat := (f a).toNat + (f (a + 1)).toNat * 256 + (f (a + 2)).toNat * 65536 + (f (a + 3)).toNat * 16777216
theorem wordAt_rd4 (f : Nat → UInt8) (a j : Nat) (hj : j < 4) : wordAt f a j = rd4 f (off a + 4 * j) := by
  rw [wordAt_eq]
  unfold pw rd4
  rw [if_pos (by omega), if_pos (by omega), if_pos (by omega), if_pos (by omega)]
  simp only [Nat.add_assoc]
theorem putL_get (f : Nat → UInt8) (a : Nat) (l : List UInt8) (i : Nat) (h : i < l.length) : putL f a l (a + i) = l[i] := by
  unfold putL
  rw [if_pos (by omega), show a + i - a = i by omega, List.getElem?_eq_getElem h]
  rfl
theorem putL_out (f : Nat → UInt8) (a : Nat) (l : List UInt8) (x : Nat) (h : x < a ∨ a + l.length ≤ x) : putL f a l x = f x := by
  unfold putL
  by_cases h1 : a ≤ x
  · rw [if_pos h1, List.getElem?_eq_none (by omega)]
    rfl
  · rw [if_neg h1]
theorem rd4_put (f : Nat → UInt8) (a v : Nat) (hv : v < 4294967296) : rd4 (putL f a (leB 4 v)) a = v := by
  have g : ∀ i, (hi : i < 4) → (putL f a (leB 4 v) (a + i)).toNat = v / 256 ^ i % 256 := fun i hi => by
    rw [putL_get _ _ _ _ (by rw [leB_length]; exact hi)]
    simp [leB]
  have g0 := g 0 (by omega)
  have g1 := g 1 (by omega)
  have g2 := g 2 (by omega)
  have g3 := g 3 (by omega)
  rw [Nat.add_zero] at g0
  unfold rd4
  rw [g0, g1, g2, g3]
  rw [show (256 : Nat) ^ 0 = 1 from rfl, show (256 : Nat) ^ 1 = 256 from rfl, show (256 : Nat) ^ 2 = 65536 from rfl, show (256 : Nat) ^ 3 = 16777216 from rfl]
  omega
theorem rd4_out (f : Nat → UInt8) (a : Nat) (l : List UInt8) (b : Nat) (h : b + 4 ≤ a ∨ a + l.length ≤ b) : rd4 (putL f a l) b = rd4 f b := by
  unfold rd4
  rw [putL_out f a l b (by omega), putL_out f a l (b + 1) (by omega), putL_out f a l (b + 2) (by omega), putL_out f a l (b + 3) (by omega)]
theorem rd4_congr (f h : Nat → UInt8) (a n : Nat) (ha : a + 4 ≤ n) (hh : ∀ x, x < n → f x = h x) : rd4 f a = rd4 h a := by
  unfold rd4
  rw [hh a (by omega), hh (a + 1) (by omega), hh (a + 2) (by omega), hh (a + 3) (by omega)]
end Go.Proofs.YtcakcfeipfjmpaaDoor
