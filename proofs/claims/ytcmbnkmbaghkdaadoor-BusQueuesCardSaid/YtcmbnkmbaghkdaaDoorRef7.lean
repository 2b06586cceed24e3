/-
The reference's Base, by and Find, walked.
No condition.
-/
import Derived.Test.YtcmbnkmbaghkdaaDoorBusFind
namespace Go.Proofs.YtcmbnkmbaghkdaaDoor
open Go.RowKit

set_option maxHeartbeats 1000000 in
theorem ref7_Base (dev : Int) (size : Nat) (w : World) :
    Calls Tryd.prog 70 #[.int .i64 dev, .int .u32 size] w fun e w' => e = .returned (.tuple #[.int .u32 (fromD dev.toNat : Nat), .int .u32 (roomD size dev.toNat : Nat)]) ∧ w = w' := by
  have hcase : (dev ≤ 0 ∨ 7 < dev) ∨ dev = 1 ∨ dev = 2 ∨ dev = 3 ∨ dev = 4 ∨ dev = 5 ∨ dev = 6 ∨ dev = 7 := by omega
  rcases hcase with h | rfl | rfl | rfl | rfl | rfl | rfl | rfl
  · rw [fromD_out dev h, roomD_out size dev h]
    have b1 : (dev == 1) = false := by simp; omega
    have b2 : (dev == 2) = false := by simp; omega
    have b3 : (dev == 3) = false := by simp; omega
    have b4 : (dev == 4) = false := by simp; omega
    have b5 : (dev == 5) = false := by simp; omega
    have b6 : (dev == 6) = false := by simp; omega
    have b7 : (dev == 7) = false := by simp; omega
    go_enter Tryd.func70, Tryd.ntmps70
    go_wp2_with fail
    go_ret2
    exact ⟨rfl, rfl⟩
  · go_enter Tryd.func70, Tryd.ntmps70
    go_wp2_with fail
    go_ret2
    exact ⟨rfl, rfl⟩
  · go_enter Tryd.func70, Tryd.ntmps70
    go_wp2_with fail
    go_ret2
    exact ⟨rfl, rfl⟩
  · go_enter Tryd.func70, Tryd.ntmps70
    go_wp2_with fail
    go_ret2
    exact ⟨rfl, rfl⟩
  · go_enter Tryd.func70, Tryd.ntmps70
    go_wp2_with fail
    go_ret2
    exact ⟨rfl, rfl⟩
  · go_enter Tryd.func70, Tryd.ntmps70
    go_wp2_with fail
    go_ret2
    exact ⟨rfl, rfl⟩
  · go_enter Tryd.func70, Tryd.ntmps70
    go_wp2_with fail
    go_ret2
    exact ⟨rfl, rfl⟩
  · by_cases h : 2147483648 < size
    · have e : roomD size (Int.toNat 7) = 2147483648 := by show min size 2147483648 = _; omega
      rw [e]
      go_enter Tryd.func70, Tryd.ntmps70
      go_wp2_with fail
      go_ret2
      exact ⟨rfl, rfl⟩
    · have e : roomD size (Int.toNat 7) = size := by show min size 2147483648 = _; omega
      rw [e]
      go_enter Tryd.func70, Tryd.ntmps70
      go_wp2_with fail
      go_ret2
      exact ⟨rfl, rfl⟩

theorem ref7_by (d n : Nat) (w : World) (h1 : 1 ≤ d) (h7 : d ≤ 7) :
    Calls Tryd.prog 69 #[.int .i64 d, .int .i64 n] w fun e w' => e = .returned (.bool (decide (byD d = 0 ∨ byD d = n))) ∧ w = w' := by
  have hcase : d = 1 ∨ d = 2 ∨ d = 3 ∨ d = 4 ∨ d = 5 ∨ d = 6 ∨ d = 7 := by omega
  rcases hcase with rfl | rfl | rfl | rfl | rfl | rfl | rfl
  · by_cases hn : n = 4
    · subst hn
      go_enter Tryd.func69, Tryd.ntmps69
      go_wp2_with fail
      go_ret
      exact ⟨rfl, rfl⟩
    · have hb : ((n : Int) == 4) = false := by simp; omega
      have hd : decide (byD 1 = 0 ∨ byD 1 = n) = false := by simp [byD]; omega
      rw [hd]
      go_enter Tryd.func69, Tryd.ntmps69
      go_wp2_with fail
      go_ret
      exact ⟨rfl, rfl⟩
  · by_cases hn : n = 4
    · subst hn
      go_enter Tryd.func69, Tryd.ntmps69
      go_wp2_with fail
      go_ret
      exact ⟨rfl, rfl⟩
    · have hb : ((n : Int) == 4) = false := by simp; omega
      have hd : decide (byD 2 = 0 ∨ byD 2 = n) = false := by simp [byD]; omega
      rw [hd]
      go_enter Tryd.func69, Tryd.ntmps69
      go_wp2_with fail
      go_ret
      exact ⟨rfl, rfl⟩
  · by_cases hn : n = 1
    · subst hn
      go_enter Tryd.func69, Tryd.ntmps69
      go_wp2_with fail
      go_ret
      exact ⟨rfl, rfl⟩
    · have hb : ((n : Int) == 1) = false := by simp; omega
      have hd : decide (byD 3 = 0 ∨ byD 3 = n) = false := by simp [byD]; omega
      rw [hd]
      go_enter Tryd.func69, Tryd.ntmps69
      go_wp2_with fail
      go_ret
      exact ⟨rfl, rfl⟩
  · by_cases hn : n = 4
    · subst hn
      go_enter Tryd.func69, Tryd.ntmps69
      go_wp2_with fail
      go_ret
      exact ⟨rfl, rfl⟩
    · have hb : ((n : Int) == 4) = false := by simp; omega
      have hd : decide (byD 4 = 0 ∨ byD 4 = n) = false := by simp [byD]; omega
      rw [hd]
      go_enter Tryd.func69, Tryd.ntmps69
      go_wp2_with fail
      go_ret
      exact ⟨rfl, rfl⟩
  · by_cases hn : n = 4
    · subst hn
      go_enter Tryd.func69, Tryd.ntmps69
      go_wp2_with fail
      go_ret
      exact ⟨rfl, rfl⟩
    · have hb : ((n : Int) == 4) = false := by simp; omega
      have hd : decide (byD 5 = 0 ∨ byD 5 = n) = false := by simp [byD]; omega
      rw [hd]
      go_enter Tryd.func69, Tryd.ntmps69
      go_wp2_with fail
      go_ret
      exact ⟨rfl, rfl⟩
  · by_cases hn : n = 4
    · subst hn
      go_enter Tryd.func69, Tryd.ntmps69
      go_wp2_with fail
      go_ret
      exact ⟨rfl, rfl⟩
    · have hb : ((n : Int) == 4) = false := by simp; omega
      have hd : decide (byD 6 = 0 ∨ byD 6 = n) = false := by simp [byD]; omega
      rw [hd]
      go_enter Tryd.func69, Tryd.ntmps69
      go_wp2_with fail
      go_ret
      exact ⟨rfl, rfl⟩
  · go_enter Tryd.func69, Tryd.ntmps69
    go_wp2_with fail
    go_ret
    exact ⟨by simp [byD], rfl⟩

end Go.Proofs.YtcmbnkmbaghkdaaDoor
