/-
pinnacelaw07's num, walked: 0 of nil, the number of an api.Errno.
Condition: the package's variable errors.errorType holds the handle of error.
-/
import Derived.Test.YtcmbnkmbaghkdaaDoorNum
import Derived.Test.YtcmbnkmbaghkdaaDoorG1
namespace Go.Proofs.YtcmbnkmbaghkdaaDoor
open Go.RowKit

theorem num07_nil (w : World) : Calls Tryd.prog 14 #[.nilIface] w fun e w' => e = .returned (.int .i64 0) ∧ Below w.heap.size w w' := by
  go_enter Tryd.func14, Tryd.ntmps14
  go_wp2_with fail
  go_ret
  exact ⟨rfl, (Below.refl _ _).alloc (Nat.le_refl _) _⟩
set_option maxHeartbeats 1000000 in
theorem num07_errno (n : Int) (w : World) (h : ErrAt w) : Calls Tryd.prog 14 #[.iface 104 (.int .i64 n)] w fun e w' => e = .returned (.int .i64 n) ∧ Below w.heap.size w w' := by
  have H := Lib.hid (as_hit n ⟨w.heap.size, 0, none⟩ (.int .i64 0) (w.alloc (.cells #[.int .i64 0] 104)) (h.below ((Below.refl _ _).alloc (Nat.le_refl _) _)) (by simp) (by simp))
  clear h
  go_enter Tryd.func14, Tryd.ntmps14
  go_wp2_with fail
  refine H.out.mono ?_
  rintro e w' ⟨rfl, rfl⟩
  go_wp2_with fail
  go_ret
  exact ⟨rfl, ((((((Below.refl _ _).alloc (Nat.le_refl _) _).alloc (by simp) _).alloc (by simp; omega) _).alloc (by simp; omega) _).alloc (by simp; omega) _)⟩
theorem num07_of (n : Nat) (w : World) (h : ErrAt w) : Calls Tryd.prog 14 #[errV n] w fun e w' => e = .returned (.int .i64 (n : Int)) ∧ Below w.heap.size w w' := by
  unfold errV
  by_cases h0 : n = 0
  · subst h0; rw [if_pos rfl]; exact num07_nil w
  · rw [if_neg h0]; exact num07_errno n w h
end Go.Proofs.YtcmbnkmbaghkdaaDoor
