/-
math/bits.TrailingZeros32, walked at numbers from 1 to 255: the place of the lowest bit.
Condition: the package's table reads as its text lays it.
-/
import Derived.Test.YtenafjdlaefepaaDoorProg
import Derived.Test.YtenafjdlaefepaaDoorRef1
import Derived.WalkKit
import Derived.Lib.Hide
namespace Go.Proofs.YtenafjdlaefepaaDoor
open Go.RowKit
/-- The place of the lowest bit of a number of eight bits. -/
def tz8 (x : Nat) : Nat := if x % 2 = 1 then 0 else if x % 4 = 2 then 1 else if x % 8 = 4 then 2 else if x % 16 = 8 then 3 else if x % 32 = 16 then 4 else if x % 64 = 32 then 5 else if x % 128 = 64 then 6 else 7
theorem neg_and : ∀ x : Nat, x < 256 → 0 < x → x &&& (4294967296 - x) = 2 ^ tz8 x := by decide +kernel
def tabN : List Nat := [0, 1, 28, 2, 29, 14, 24, 3, 30, 22, 20, 15, 25, 17, 4, 8, 31, 27, 13, 23, 21, 19, 16, 7, 26, 12, 18, 6, 11, 5, 10, 9]
/-- math/bits' table holds what its text lays. -/
def Tab32 (w : World) : Prop := ∀ j, j < 32 → w.cell? ⟨0, j, none⟩ = some (.int .u8 ((tabN.getD j 0 : Nat) : Int))
theorem Tab32.lt {w : World} (h : Tab32 w) : 0 < w.heap.size := block_lt_of_cell (a := ⟨0, 0, none⟩) (h 0 (by omega))
theorem Tab32.below {w w' : World} (h : Tab32 w) (hb : Below w.heap.size w w') : Tab32 w' := fun j hj => (hb.cell (p := ⟨0, j, none⟩) h.lt).trans (h j hj)
theorem tz8_le (x : Nat) : tz8 x ≤ 7 := by unfold tz8; (repeat' split) <;> omega
theorem tab_tz : ∀ t : Nat, t < 8 → tabN.getD (2 ^ t * 125613361 % 4294967296 / 134217728) 0 = t ∧ 2 ^ t * 125613361 % 4294967296 / 134217728 < 32 := by
  intro t ht
  have : t = 0 ∨ t = 1 ∨ t = 2 ∨ t = 3 ∨ t = 4 ∨ t = 5 ∨ t = 6 ∨ t = 7 := by omega
  rcases this with rfl | rfl | rfl | rfl | rfl | rfl | rfl | rfl <;> exact ⟨by simp [tabN], by simp⟩
theorem tz_index (x : Nat) (h : x < 256) (h0 : 0 < x) : (bits BinOp.and IntKind.u32 (x : Int) (-(x : Int) % 4294967296) * 125613361 % 4294967296 / 134217728).toNat = 2 ^ tz8 x * 125613361 % 4294967296 / 134217728 := by
  have e : -(x : Int) % 4294967296 = ((4294967296 - x : Nat) : Int) := by omega
  rw [e, u32_and_nat _ _ (by omega) (by omega), neg_and x h h0]
  generalize 2 ^ tz8 x = q
  have : ((q : Int) * 125613361 % 4294967296 / 134217728) = ((q * 125613361 % 4294967296 / 134217728 : Nat) : Int) := by omega
  rw [this, Int.toNat_natCast]

set_option maxHeartbeats 400000 in
theorem tz_32 (x : Nat) (h0 : 0 < x) (h : x < 256) (w : World) (ht : Tab32 w) :
    Calls Tryd.prog 51 #[.int .u32 x] w fun e w' => e = .returned (.int .i64 (tz8 x)) ∧ w = w' := by
  have h1 : ((x : Int) == 0) = false := by simp; omega
  have h2 := tab_tz (tz8 x) (by have := tz8_le x; omega)
  have hc : w.cell? ⟨0, (bits BinOp.and IntKind.u32 (x : Int) (-(x : Int) % 4294967296) * 125613361 % 4294967296 / 134217728).toNat, none⟩ = some (.int .u8 (tz8 x)) := by
    rw [tz_index x h h0, ht _ h2.2, h2.1]
  have h3 : (bits BinOp.and IntKind.u32 (x : Int) (-(x : Int) % 4294967296) * 125613361 % 4294967296 / 134217728) < 32 := by
    have := tz_index x h h0
    have := h2.2
    omega
  have h4 : 0 ≤ (bits BinOp.and IntKind.u32 (x : Int) (-(x : Int) % 4294967296) * 125613361 % 4294967296 / 134217728) := by omega
  have h5 := tz8_le x
  clear h2 ht
  go_enter Tryd.func51, Tryd.ntmps51
  go_wp2
  go_ret
  exact ⟨rfl, rfl⟩
end Go.Proofs.YtenafjdlaefepaaDoor
