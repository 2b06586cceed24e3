/-
bus.at, bus.Base, region.holds, bus.wide, walked: where each device lies.
Condition: the package's table of regions reads as its text lays it.
-/
import Derived.Test.YtcmbnkmbaghkdaaDoorG1
import Derived.WalkKit
import Derived.Lib.Hide
namespace Go.Proofs.YtcmbnkmbaghkdaaDoor
open Go.RowKit


theorem bus_wide (n : Int) (w : World) : Calls Tryd.prog 66 #[.int .i64 n] w fun e w' => e = .returned (.bool (decide (n = 1 ∨ n = 2 ∨ n = 4))) ∧ w = w' := by
  by_cases h1 : n = 1
  · subst h1
    go_enter Tryd.func66, Tryd.ntmps66
    go_wp2
    go_ret
    exact ⟨rfl, rfl⟩
  · by_cases h2 : n = 2
    · subst h2
      go_enter Tryd.func66, Tryd.ntmps66
      go_wp2
      go_ret
      exact ⟨rfl, rfl⟩
    · by_cases h4 : n = 4
      · subst h4
        go_enter Tryd.func66, Tryd.ntmps66
        go_wp2
        go_ret
        exact ⟨rfl, rfl⟩
      · have b1 : (n == 1) = false := by simpa using h1
        have b2 : (n == 2) = false := by simpa using h2
        have b4 : (n == 4) = false := by simpa using h4
        go_enter Tryd.func66, Tryd.ntmps66
        go_wp2
        go_ret
        exact ⟨by simp [h1, h2, h4], rfl⟩
set_option maxHeartbeats 1000000 in
theorem bus_holds (f r b at_ n : Nat) (w : World) (hf : f < 4294967296) (hr : r < 4294967296) (ha : at_ < 4294967296) (hn : n < 4294967296) :
    Calls Tryd.prog 68 #[.agg #[.int .u32 f, .int .u32 r, .int .i64 b], .int .u32 at_, .int .i64 n] w fun e w' => e = .returned (.bool (decide (f ≤ at_) && decide (at_ + n ≤ f + r))) ∧ Below w.heap.size w w' := by
  by_cases h : f ≤ at_
  · by_cases h2 : at_ + n ≤ f + r
    · go_enter Tryd.func68, Tryd.ntmps68
      go_wp2_with fail
      go_ret
      exact ⟨by simp [h]; omega, (Below.refl _ _).alloc (Nat.le_refl _) _⟩
    · go_enter Tryd.func68, Tryd.ntmps68
      go_wp2_with fail
      go_ret
      exact ⟨by simp [h]; omega, (Below.refl _ _).alloc (Nat.le_refl _) _⟩
  · go_enter Tryd.func68, Tryd.ntmps68
    go_wp2_with fail
    go_ret
    exact ⟨by simp [h], (Below.refl _ _).alloc (Nat.le_refl _) _⟩
end Go.Proofs.YtcmbnkmbaghkdaaDoor
