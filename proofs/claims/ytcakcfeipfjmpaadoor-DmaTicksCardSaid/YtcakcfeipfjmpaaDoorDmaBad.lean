/-
bad of package dma, walked.
No condition.
-/
import Derived.Test.YtcakcfeipfjmpaaDoorDmaCheck2
namespace Go.Proofs.YtcakcfeipfjmpaaDoor
open Go.RowKit

theorem errV_1 : errV 1 = .iface 109 (.int .i64 1) := rfl
theorem errV_2 : errV 2 = .iface 109 (.int .i64 2) := rfl
theorem errV_4 : errV 4 = .iface 109 (.int .i64 4) := rfl
theorem errV_5 : errV 5 = .iface 109 (.int .i64 5) := rfl
theorem errV_20 : errV 20 = .iface 109 (.int .i64 20) := rfl
theorem errV_21 : errV 21 = .iface 109 (.int .i64 21) := rfl
theorem errV_22 : errV 22 = .iface 109 (.int .i64 22) := rfl
set_option maxRecDepth 100000 in
set_option maxHeartbeats 4000000 in
theorem dma_bad_state (s : Dst) (at_x : Nat) (w : World) (_hat : at_x < 4294967296) (hs : ¬ s.okP) : Calls Tryd.prog 67 #[.agg s.c, .int .u32 at_x] w fun e w' => e = .returned (errV 1) ∧ Below w.heap.size w w' := by
  have HC := Lib.hid (fun W => dma_Check s W)
  rw [if_neg hs, errV_1] at HC
  obtain ⟨code, head, at_, steps, moved, have_, from_, to_, left, next, asks⟩ := s
  simp only [Dst.c] at HC ⊢
  clear hs
  have HB := Lib.hid ((Below.refl w.heap.size w).alloc (Nat.le_refl _) (.cells #[.int .u32 code, .int .u32 head, .int .u32 at_, .int .u32 steps, .int .u32 moved, .bool have_, .int .u32 from_, .int .u32 to_, .int .u32 left, .int .u32 next, .bool asks] 33))
  go_enter Tryd.func67, Tryd.ntmps67
  go_wp2_with fail
  refine (HC.out _).mono ?_
  rintro e w1 ⟨rfl, hb⟩
  go_wp2_with fail
  go_ret
  exact ⟨rfl, HB.out.trans (hb.mono HB.out.size)⟩
set_option maxRecDepth 100000 in
set_option maxHeartbeats 4000000 in
theorem dma_bad_far (s : Dst) (at_x : Nat) (w : World) (hat : at_x < 4294967296) (hs : s.okP) (ha : 256 ≤ at_x) : Calls Tryd.prog 67 #[.agg s.c, .int .u32 at_x] w fun e w' => e = .returned (errV 20) ∧ Below w.heap.size w w' := by
  have HC := Lib.hid (fun W => dma_Check s W)
  rw [if_pos hs] at HC
  obtain ⟨code, head, at_, steps, moved, have_, from_, to_, left, next, asks⟩ := s
  simp only [Dst.c] at HC ⊢
  have b1 : decide ((256 : Int) ≤ (at_x : Int)) = true := by simp; omega
  clear hs
  clear ha
  have HB := Lib.hid ((Below.refl w.heap.size w).alloc (Nat.le_refl _) (.cells #[.int .u32 code, .int .u32 head, .int .u32 at_, .int .u32 steps, .int .u32 moved, .bool have_, .int .u32 from_, .int .u32 to_, .int .u32 left, .int .u32 next, .bool asks] 33))
  go_enter Tryd.func67, Tryd.ntmps67
  go_wp2_with fail
  refine (HC.out _).mono ?_
  rintro e w1 ⟨rfl, hb⟩
  go_wp2_with fail
  go_ret
  exact ⟨rfl, HB.out.trans (hb.mono HB.out.size)⟩
set_option maxRecDepth 100000 in
set_option maxHeartbeats 4000000 in
theorem dma_bad_odd (s : Dst) (at_x : Nat) (w : World) (hat : at_x < 4294967296) (hs : s.okP) (ha : at_x < 256) (hm : at_x % 4 ≠ 0) : Calls Tryd.prog 67 #[.agg s.c, .int .u32 at_x] w fun e w' => e = .returned (errV 20) ∧ Below w.heap.size w w' := by
  have HC := Lib.hid (fun W => dma_Check s W)
  rw [if_pos hs] at HC
  obtain ⟨code, head, at_, steps, moved, have_, from_, to_, left, next, asks⟩ := s
  simp only [Dst.c] at HC ⊢
  have b1 : decide ((256 : Int) ≤ (at_x : Int)) = false := by simp; omega
  have b2 : ((at_x : Int) % 4 != 0) = true := by simp; omega
  clear hs
  clear ha hm
  have HB := Lib.hid ((Below.refl w.heap.size w).alloc (Nat.le_refl _) (.cells #[.int .u32 code, .int .u32 head, .int .u32 at_, .int .u32 steps, .int .u32 moved, .bool have_, .int .u32 from_, .int .u32 to_, .int .u32 left, .int .u32 next, .bool asks] 33))
  go_enter Tryd.func67, Tryd.ntmps67
  go_wp2_with fail
  refine (HC.out _).mono ?_
  rintro e w1 ⟨rfl, hb⟩
  go_wp2_with fail
  go_ret
  exact ⟨rfl, HB.out.trans (hb.mono HB.out.size)⟩
set_option maxRecDepth 100000 in
set_option maxHeartbeats 4000000 in
theorem dma_bad_ok (s : Dst) (at_x : Nat) (w : World) (hat : at_x < 4294967296) (hs : s.okP) (ha : at_x < 256) (hm : at_x % 4 = 0) : Calls Tryd.prog 67 #[.agg s.c, .int .u32 at_x] w fun e w' => e = .returned (.nilIface) ∧ Below w.heap.size w w' := by
  have HC := Lib.hid (fun W => dma_Check s W)
  rw [if_pos hs] at HC
  obtain ⟨code, head, at_, steps, moved, have_, from_, to_, left, next, asks⟩ := s
  simp only [Dst.c] at HC ⊢
  have b1 : decide ((256 : Int) ≤ (at_x : Int)) = false := by simp; omega
  have b2 : ((at_x : Int) % 4 != 0) = false := by simp; omega
  clear hs
  clear ha hm
  have HB := Lib.hid ((Below.refl w.heap.size w).alloc (Nat.le_refl _) (.cells #[.int .u32 code, .int .u32 head, .int .u32 at_, .int .u32 steps, .int .u32 moved, .bool have_, .int .u32 from_, .int .u32 to_, .int .u32 left, .int .u32 next, .bool asks] 33))
  go_enter Tryd.func67, Tryd.ntmps67
  go_wp2_with fail
  refine (HC.out _).mono ?_
  rintro e w1 ⟨rfl, hb⟩
  go_wp2_with fail
  go_ret
  exact ⟨rfl, HB.out.trans (hb.mono HB.out.size)⟩

end Go.Proofs.YtcakcfeipfjmpaaDoor
