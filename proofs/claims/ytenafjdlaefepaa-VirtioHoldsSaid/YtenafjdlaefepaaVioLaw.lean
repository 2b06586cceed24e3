/-
What virtio.Write keeps, in plain Lean: a queue that is ready.
No condition.
-/
import Derived.Test.YtenafjdlaefepaaVioWrAll
namespace Go.Proofs.Ytenafjdlaefepaa
open Go.RowKit

theorem queue_keeps (s : VS) (at_ v : Nat) (h68 : ¬ at_ = 68) : (s.a.rdy = true → (s.queue at_ v).a = s.a) ∧ (s.b.rdy = true → (s.queue at_ v).b = s.b) := by
  unfold VS.queue
  by_cases h2 : 2 ≤ s.se
  · rw [if_pos h2]; exact ⟨fun _ => rfl, fun _ => rfl⟩
  rw [if_neg h2, if_neg h68]
  by_cases h0 : s.se = 0
  · rw [if_pos h0]
    cases hr : s.a.rdy
    · refine ⟨fun h => by simp at h, fun _ => ?_⟩
      rw [if_neg (by simp)]
      repeat' split
      all_goals rfl
    · rw [if_pos rfl]; exact ⟨fun _ => rfl, fun _ => rfl⟩
  · rw [if_neg h0]
    cases hr : s.b.rdy
    · refine ⟨fun _ => ?_, fun h => by simp at h⟩
      rw [if_neg (by simp)]
      repeat' split
      all_goals rfl
    · rw [if_pos rfl]; exact ⟨fun _ => rfl, fun _ => rfl⟩
theorem write_keeps (s : VS) (at_ v : Nat) (h68 : ¬ at_ = 68) (h112 : ¬ at_ = 112) : (s.a.rdy = true → (s.write at_ v).a = s.a) ∧ (s.b.rdy = true → (s.write at_ v).b = s.b) := by
  unfold VS.write
  rw [if_neg h112]
  repeat' split
  all_goals first | exact queue_keeps s at_ v h68 | exact ⟨fun _ => rfl, fun _ => rfl⟩
end Go.Proofs.Ytenafjdlaefepaa
