/-
The number that bytes tell, the least first.
No condition.
-/
import Derived.Test.YtcakcfeipfjmpaaDoorRowAt
namespace Go.Proofs.YtcakcfeipfjmpaaDoor

/-- The number that the first j bytes at a tell. -/
def gp (f : Nat → UInt8) (a : Nat) : Nat → Nat
  | 0 => 0
  | j + 1 => gp f a j + (f (a + j)).toNat * 256 ^ j
theorem gp_step (f : Nat → UInt8) (a j : Nat) (hj : j < 4) : ((gp f a j : Nat) : Int) + (((f (a + j)).toNat : Nat) : Int) * ((256 ^ j % 4294967296 : Nat) : Int) % 4294967296 = ((gp f a (j + 1) : Nat) : Int) ∧ gp f a (j + 1) < 4294967296 ∧ ((256 ^ j % 4294967296 : Nat) : Int) * 256 % 4294967296 = ((256 ^ (j + 1) % 4294967296 : Nat) : Int) := by
  have h0 := (f a).toNat_lt
  have h1 := (f (a + 1)).toNat_lt
  have h2 := (f (a + 2)).toNat_lt
  have h3 := (f (a + 3)).toNat_lt
  have : j = 0 ∨ j = 1 ∨ j = 2 ∨ j = 3 := by omega
  rcases this with rfl | rfl | rfl | rfl
  all_goals
    simp only [gp, Nat.add_zero]
    refine ⟨?_, ?_, ?_⟩ <;> omega
end Go.Proofs.YtcakcfeipfjmpaaDoor
