/-
virtio.Write of a state that can't be, or at a place that is none: the error.
No condition.
-/
import Derived.Test.YtcbjlpkkebcmjaaDoorVioStat
import Derived.OwnWalk
namespace Go.Proofs.YtcbjlpkkebcmjaaDoor
open Go.RowKit

set_option maxRecDepth 100000 in
set_option maxHeartbeats 2000000 in
theorem vs_write_err (c : Array Value) (at_ v n : Nat) (w : World) (hczi : c.size = 21)
    (HBAD : Hid (∀ W, Calls Tryd.prog 70 #[.agg c, .int .u32 at_] W fun e w' => e = .returned (.iface 140 (.int .i64 n)) ∧ Below W.heap.size W w')) :
    Calls Tryd.prog 77 #[.agg c, .int .u32 at_, .int .u32 v] w fun e w' => e = .returned (.tuple #[.agg VS.zero.c, .int .i64 (-1), .iface 140 (.int .i64 n)]) ∧ Below w.heap.size w w' := by
  have HI := Lib.hid (show (Tryd.prog.info? 63).map (·.size) = some VS.zero.c.size by kernel_rfl)
  have HIC := Lib.hid (show (Tryd.prog.info? 63).map (·.size) = some c.size by rw [hczi]; kernel_rfl)
  have HO := Lib.hid VS.zero.c_one
  have H0 := Lib.hid (show ((w.alloc (.cells c 63)).alloc (.cells VS.zero.c 63)).heap[w.heap.size]? = some (.cells c 63 (0, 0)) from heap_alloc2_old _ _ _)
  have HZ0 := Lib.hid (show ((w.alloc (.cells c 63)).alloc (.cells VS.zero.c 63)).heap[w.heap.size + 1]? = some (.cells VS.zero.c 63 (0, 0)) from heap_alloc2_new _ _ _)
  have HBL0 := Lib.hid (((Below.refl w.heap.size w).alloc (Nat.le_refl _) (.cells c 63)).alloc (by simp) (.cells VS.zero.c 63))
  clear hczi
  go_enter Tryd.func77, Tryd.ntmps77
  go_wp2_with (refine wpList_load_row rfl 63 _ rfl w.heap.size rfl 63 c (0, 0) _ H0.out Tryd.underlying63 rfl HIC.out ?_)
  refine (HBAD.out _).mono ?_
  rintro e w1 ⟨rfl, hb⟩
  have HZ1 := Lib.hid (below_cells HZ0.out hb)
  have HBL1 := Lib.hid (HBL0.out.trans (hb.mono HBL0.out.size))
  clear hb
  go_wp2_with (refine wpList_store_row rfl 63 _ _ rfl (w.heap.size + 1) VS.zero.c rfl rfl 63 VS.zero.c HZ1.out HI.out rfl HO.out ?_)
  exact bodyPost_ret (v := .tuple #[.agg VS.zero.c, .int .i64 (-1), .iface 140 (.int .i64 n)]) (results_cell_tmp2 Tryd.results77 _ _ (w.heap.size + 1) 63 VS.zero.c (0, 0) _ rfl (setRow_heap _ _ _ _ _ _ HZ1.out) Tryd.underlying63 rfl HI.out) rfl ⟨rfl, below_setRow HBL1.out (by simp) _⟩
end Go.Proofs.YtcbjlpkkebcmjaaDoor
