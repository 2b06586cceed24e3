/-
virtio's queue, walked: leaf by leaf.
No condition.
-/
import Derived.Test.YtcbjlpkkebcmjaaDoorVioStat
namespace Go.Proofs.YtcbjlpkkebcmjaaDoor
open Go.RowKit

set_option maxRecDepth 100000 in
set_option maxHeartbeats 2000000 in
theorem vs_queue_big (c d : Array Value) (sel at_ v : Nat) (w : World) (hc3 : c[3]? = some (.int .u32 sel)) (hdz : d.size = 21) (hone : d.all (·.oneCell') = true) (hczi : c.size = 21)
    (hT : c = d)
    (hs : 2 ≤ (sel : Int)) :
    Calls Tryd.prog 124 #[.agg c, .int .u32 at_, .int .u32 v] w fun e w' => e = .returned (.agg d) ∧ Below w.heap.size w w' := by
  have HT := Lib.hid hT
  have HI := Lib.hid (show (Tryd.prog.info? 63).map (·.size) = some d.size by rw [hdz]; kernel_rfl)
  have HIC := Lib.hid (show (Tryd.prog.info? 63).map (·.size) = some c.size by rw [hczi]; kernel_rfl)
  have HO := Lib.hid hone
  have HSZ : Hid (VS.zero.c.size = d.size) := Lib.hid (by rw [hdz]; rfl)
  have H0 := Lib.hid (show ((w.alloc (.cells c 63)).alloc (.cells VS.zero.c 63)).heap[w.heap.size]? = some (.cells c 63 (0, 0)) from heap_alloc2_old _ _ _)
  have hz0 : ((w.alloc (.cells c 63)).alloc (.cells VS.zero.c 63)).heap[w.heap.size + 1]? = some (.cells VS.zero.c 63 (0, 0)) := heap_alloc2_new _ _ _
  have HZ0 := Lib.hid hz0
  have hbl0 := ((Below.refl w.heap.size w).alloc (Nat.le_refl _) (.cells c 63)).alloc (by simp) (.cells VS.zero.c 63)
  have HBL0 := Lib.hid hbl0
  have hg3 := get_of hc3
  clear hone hT hbl0 hz0 hdz

  have HA : Hid (((w.alloc (.cells c 63)).alloc (.cells VS.zero.c 63)).heap[w.heap.size]? = some (.cells d 63 (0, 0))) := Lib.hid (by rw [← HT.out]; exact heap_alloc2_old _ _ _)
  go_enter Tryd.func124, Tryd.ntmps124
  go_wp2_with (first | (refine wpList_load_row rfl 63 _ rfl w.heap.size rfl 63 d (0, 0) _ HA.out Tryd.underlying63 rfl HI.out ?_) | (refine wpList_store_row rfl 63 _ _ rfl (w.heap.size + 1) d rfl rfl 63 VS.zero.c HZ0.out HI.out HSZ.out HO.out ?_))
  exact bodyPost_ret (v := .agg d) (results_cell_row rfl _ _ (w.heap.size + 1) 63 d (0, 0) _ rfl (setRow_heap _ _ _ _ _ _ HZ0.out) Tryd.underlying63 rfl HI.out) rfl ⟨rfl, below_setRow (HBL0.out) (by simp) _⟩

set_option maxRecDepth 100000 in
set_option maxHeartbeats 2000000 in
theorem vs_queue_r68 (c d : Array Value) (sel v : Nat) (w : World) (hc3 : c[3]? = some (.int .u32 sel)) (hdz : d.size = 21) (hone : d.all (·.oneCell') = true) (hczi : c.size = 21)
    (hT : True)
    (hs : ¬ 2 ≤ (sel : Int))
    (HF : Hid (∀ W, Calls Tryd.prog 148 #[.agg c, .int .u32 v] W fun e w' => e = .returned (.agg d) ∧ Below W.heap.size W w')) :
    Calls Tryd.prog 124 #[.agg c, .int .u32 68, .int .u32 v] w fun e w' => e = .returned (.agg d) ∧ Below w.heap.size w w' := by
  have HT := Lib.hid hT
  have HI := Lib.hid (show (Tryd.prog.info? 63).map (·.size) = some d.size by rw [hdz]; kernel_rfl)
  have HIC := Lib.hid (show (Tryd.prog.info? 63).map (·.size) = some c.size by rw [hczi]; kernel_rfl)
  have HO := Lib.hid hone
  have HSZ : Hid (VS.zero.c.size = d.size) := Lib.hid (by rw [hdz]; rfl)
  have H0 := Lib.hid (show ((w.alloc (.cells c 63)).alloc (.cells VS.zero.c 63)).heap[w.heap.size]? = some (.cells c 63 (0, 0)) from heap_alloc2_old _ _ _)
  have hz0 : ((w.alloc (.cells c 63)).alloc (.cells VS.zero.c 63)).heap[w.heap.size + 1]? = some (.cells VS.zero.c 63 (0, 0)) := heap_alloc2_new _ _ _
  have HZ0 := Lib.hid hz0
  have hbl0 := ((Below.refl w.heap.size w).alloc (Nat.le_refl _) (.cells c 63)).alloc (by simp) (.cells VS.zero.c 63)
  have HBL0 := Lib.hid hbl0
  have hg3 := get_of hc3
  clear hone hT hbl0 hz0 hdz

  go_enter Tryd.func124, Tryd.ntmps124
  go_wp2_with (refine wpList_load_row rfl 63 _ rfl w.heap.size rfl 63 c (0, 0) _ H0.out Tryd.underlying63 rfl HIC.out ?_)
  refine (HF.out _).mono ?_
  rintro e w2 ⟨rfl, hb⟩
  have HZ2 := Lib.hid (below_cells HZ0.out hb)
  have HBL2 := Lib.hid (HBL0.out.trans (hb.mono HBL0.out.size))
  clear hb
  go_wp2_with (refine wpList_store_row rfl 63 _ _ rfl (w.heap.size + 1) d rfl rfl 63 VS.zero.c HZ2.out HI.out HSZ.out HO.out ?_)
  exact bodyPost_ret (v := .agg d) (results_cell_row rfl _ _ (w.heap.size + 1) 63 d (0, 0) _ rfl (setRow_heap _ _ _ _ _ _ HZ2.out) Tryd.underlying63 rfl HI.out) rfl ⟨rfl, below_setRow (HBL2.out) (by simp) _⟩

set_option maxRecDepth 100000 in
set_option maxHeartbeats 2000000 in
theorem vs_queue_0_rdy (c d : Array Value) (at_ v : Nat) (w : World) (hc3 : c[3]? = some (.int .u32 0)) (hdz : d.size = 21) (hone : d.all (·.oneCell') = true) (hczi : c.size = 21)
    (hT : c = d)
    (hc7 : c[7]? = some (.bool true))
    (b0 : ((at_ : Int) == 68) = false) :
    Calls Tryd.prog 124 #[.agg c, .int .u32 at_, .int .u32 v] w fun e w' => e = .returned (.agg d) ∧ Below w.heap.size w w' := by
  have HT := Lib.hid hT
  have HI := Lib.hid (show (Tryd.prog.info? 63).map (·.size) = some d.size by rw [hdz]; kernel_rfl)
  have HIC := Lib.hid (show (Tryd.prog.info? 63).map (·.size) = some c.size by rw [hczi]; kernel_rfl)
  have HO := Lib.hid hone
  have HSZ : Hid (VS.zero.c.size = d.size) := Lib.hid (by rw [hdz]; rfl)
  have H0 := Lib.hid (show ((w.alloc (.cells c 63)).alloc (.cells VS.zero.c 63)).heap[w.heap.size]? = some (.cells c 63 (0, 0)) from heap_alloc2_old _ _ _)
  have hz0 : ((w.alloc (.cells c 63)).alloc (.cells VS.zero.c 63)).heap[w.heap.size + 1]? = some (.cells VS.zero.c 63 (0, 0)) := heap_alloc2_new _ _ _
  have HZ0 := Lib.hid hz0
  have hbl0 := ((Below.refl w.heap.size w).alloc (Nat.le_refl _) (.cells c 63)).alloc (by simp) (.cells VS.zero.c 63)
  have HBL0 := Lib.hid hbl0
  have hg3 := get_of hc3
  clear hone hT hbl0 hz0 hdz

  have hg7 := get_of hc7
  have HA : Hid (((w.alloc (.cells c 63)).alloc (.cells VS.zero.c 63)).heap[w.heap.size]? = some (.cells d 63 (0, 0))) := Lib.hid (by rw [← HT.out]; exact heap_alloc2_old _ _ _)
  go_enter Tryd.func124, Tryd.ntmps124
  go_wp2_with (first | (refine wpList_load_row rfl 63 _ rfl w.heap.size rfl 63 d (0, 0) _ HA.out Tryd.underlying63 rfl HI.out ?_) | (refine wpList_store_row rfl 63 _ _ rfl (w.heap.size + 1) d rfl rfl 63 VS.zero.c HZ0.out HI.out HSZ.out HO.out ?_))
  exact bodyPost_ret (v := .agg d) (results_cell_row rfl _ _ (w.heap.size + 1) 63 d (0, 0) _ rfl (setRow_heap _ _ _ _ _ _ HZ0.out) Tryd.underlying63 rfl HI.out) rfl ⟨rfl, below_setRow (HBL0.out) (by simp) _⟩

set_option maxRecDepth 100000 in
set_option maxHeartbeats 2000000 in
theorem vs_queue_0_56s (c d : Array Value) (v : Nat) (w : World) (hc3 : c[3]? = some (.int .u32 0)) (hdz : d.size = 21) (hone : d.all (·.oneCell') = true) (hczi : c.size = 21)
    (hT : (c.setIfInBounds 8 (.int .i64 v)) = d)
    (hc7 : c[7]? = some (.bool false))
    (hv : (v : Int) ≤ 256) :
    Calls Tryd.prog 124 #[.agg c, .int .u32 56, .int .u32 v] w fun e w' => e = .returned (.agg d) ∧ Below w.heap.size w w' := by
  have HT := Lib.hid hT
  have HI := Lib.hid (show (Tryd.prog.info? 63).map (·.size) = some d.size by rw [hdz]; kernel_rfl)
  have HIC := Lib.hid (show (Tryd.prog.info? 63).map (·.size) = some c.size by rw [hczi]; kernel_rfl)
  have HO := Lib.hid hone
  have HSZ : Hid (VS.zero.c.size = d.size) := Lib.hid (by rw [hdz]; rfl)
  have H0 := Lib.hid (show ((w.alloc (.cells c 63)).alloc (.cells VS.zero.c 63)).heap[w.heap.size]? = some (.cells c 63 (0, 0)) from heap_alloc2_old _ _ _)
  have hz0 : ((w.alloc (.cells c 63)).alloc (.cells VS.zero.c 63)).heap[w.heap.size + 1]? = some (.cells VS.zero.c 63 (0, 0)) := heap_alloc2_new _ _ _
  have HZ0 := Lib.hid hz0
  have hbl0 := ((Below.refl w.heap.size w).alloc (Nat.le_refl _) (.cells c 63)).alloc (by simp) (.cells VS.zero.c 63)
  have HBL0 := Lib.hid hbl0
  have hg3 := get_of hc3
  clear hone hT hbl0 hz0 hdz

  have hg7 := get_of hc7
  have HA : Hid (((w.alloc (.cells (c.setIfInBounds 8 (.int .i64 v)) 63)).alloc (.cells VS.zero.c 63)).heap[w.heap.size]? = some (.cells d 63 (0, 0))) := Lib.hid (by rw [HT.out]; exact heap_alloc2_old _ _ _)
  have HB : Hid (((w.alloc (.cells (c.setIfInBounds 8 (.int .i64 v)) 63)).alloc (.cells VS.zero.c 63)).heap[w.heap.size + 1]? = some (.cells VS.zero.c 63 (0, 0))) := Lib.hid (heap_alloc2_new _ _ _)
  have hbl := ((Below.refl w.heap.size w).alloc (Nat.le_refl _) (.cells (c.setIfInBounds 8 (.int .i64 v)) 63)).alloc (by simp) (.cells VS.zero.c 63)
  go_enter Tryd.func124, Tryd.ntmps124
  go_wp2_with (first | (refine wpList_load_row rfl 63 _ rfl w.heap.size rfl 63 d (0, 0) _ HA.out Tryd.underlying63 rfl HI.out ?_) | (refine wpList_store_row rfl 63 _ _ rfl (w.heap.size + 1) d rfl rfl 63 VS.zero.c HB.out HI.out HSZ.out HO.out ?_))
  exact bodyPost_ret (v := .agg d) (results_cell_row rfl _ _ (w.heap.size + 1) 63 d (0, 0) _ rfl (setRow_heap _ _ _ _ _ _ HB.out) Tryd.underlying63 rfl HI.out) rfl ⟨rfl, below_setRow (hbl) (by simp) _⟩

set_option maxRecDepth 100000 in
set_option maxHeartbeats 2000000 in
theorem vs_queue_0_56n (c d : Array Value) (v : Nat) (w : World) (hc3 : c[3]? = some (.int .u32 0)) (hdz : d.size = 21) (hone : d.all (·.oneCell') = true) (hczi : c.size = 21)
    (hT : c = d)
    (hc7 : c[7]? = some (.bool false))
    (hv : ¬ (v : Int) ≤ 256) :
    Calls Tryd.prog 124 #[.agg c, .int .u32 56, .int .u32 v] w fun e w' => e = .returned (.agg d) ∧ Below w.heap.size w w' := by
  have HT := Lib.hid hT
  have HI := Lib.hid (show (Tryd.prog.info? 63).map (·.size) = some d.size by rw [hdz]; kernel_rfl)
  have HIC := Lib.hid (show (Tryd.prog.info? 63).map (·.size) = some c.size by rw [hczi]; kernel_rfl)
  have HO := Lib.hid hone
  have HSZ : Hid (VS.zero.c.size = d.size) := Lib.hid (by rw [hdz]; rfl)
  have H0 := Lib.hid (show ((w.alloc (.cells c 63)).alloc (.cells VS.zero.c 63)).heap[w.heap.size]? = some (.cells c 63 (0, 0)) from heap_alloc2_old _ _ _)
  have hz0 : ((w.alloc (.cells c 63)).alloc (.cells VS.zero.c 63)).heap[w.heap.size + 1]? = some (.cells VS.zero.c 63 (0, 0)) := heap_alloc2_new _ _ _
  have HZ0 := Lib.hid hz0
  have hbl0 := ((Below.refl w.heap.size w).alloc (Nat.le_refl _) (.cells c 63)).alloc (by simp) (.cells VS.zero.c 63)
  have HBL0 := Lib.hid hbl0
  have hg3 := get_of hc3
  clear hone hT hbl0 hz0 hdz

  have hg7 := get_of hc7
  have HA : Hid (((w.alloc (.cells c 63)).alloc (.cells VS.zero.c 63)).heap[w.heap.size]? = some (.cells d 63 (0, 0))) := Lib.hid (by rw [← HT.out]; exact heap_alloc2_old _ _ _)
  go_enter Tryd.func124, Tryd.ntmps124
  go_wp2_with (first | (refine wpList_load_row rfl 63 _ rfl w.heap.size rfl 63 d (0, 0) _ HA.out Tryd.underlying63 rfl HI.out ?_) | (refine wpList_store_row rfl 63 _ _ rfl (w.heap.size + 1) d rfl rfl 63 VS.zero.c HZ0.out HI.out HSZ.out HO.out ?_))
  exact bodyPost_ret (v := .agg d) (results_cell_row rfl _ _ (w.heap.size + 1) 63 d (0, 0) _ rfl (setRow_heap _ _ _ _ _ _ HZ0.out) Tryd.underlying63 rfl HI.out) rfl ⟨rfl, below_setRow (HBL0.out) (by simp) _⟩

set_option maxRecDepth 100000 in
set_option maxHeartbeats 2000000 in
theorem vs_queue_0_128 (c d : Array Value) (v : Nat) (w : World) (hc3 : c[3]? = some (.int .u32 0)) (hdz : d.size = 21) (hone : d.all (·.oneCell') = true) (hczi : c.size = 21)
    (hT : (c.setIfInBounds 9 (.int .u32 v)) = d)
    (hc7 : c[7]? = some (.bool false)) :
    Calls Tryd.prog 124 #[.agg c, .int .u32 128, .int .u32 v] w fun e w' => e = .returned (.agg d) ∧ Below w.heap.size w w' := by
  have HT := Lib.hid hT
  have HI := Lib.hid (show (Tryd.prog.info? 63).map (·.size) = some d.size by rw [hdz]; kernel_rfl)
  have HIC := Lib.hid (show (Tryd.prog.info? 63).map (·.size) = some c.size by rw [hczi]; kernel_rfl)
  have HO := Lib.hid hone
  have HSZ : Hid (VS.zero.c.size = d.size) := Lib.hid (by rw [hdz]; rfl)
  have H0 := Lib.hid (show ((w.alloc (.cells c 63)).alloc (.cells VS.zero.c 63)).heap[w.heap.size]? = some (.cells c 63 (0, 0)) from heap_alloc2_old _ _ _)
  have hz0 : ((w.alloc (.cells c 63)).alloc (.cells VS.zero.c 63)).heap[w.heap.size + 1]? = some (.cells VS.zero.c 63 (0, 0)) := heap_alloc2_new _ _ _
  have HZ0 := Lib.hid hz0
  have hbl0 := ((Below.refl w.heap.size w).alloc (Nat.le_refl _) (.cells c 63)).alloc (by simp) (.cells VS.zero.c 63)
  have HBL0 := Lib.hid hbl0
  have hg3 := get_of hc3
  clear hone hT hbl0 hz0 hdz

  have hg7 := get_of hc7
  have HA : Hid (((w.alloc (.cells (c.setIfInBounds 9 (.int .u32 v)) 63)).alloc (.cells VS.zero.c 63)).heap[w.heap.size]? = some (.cells d 63 (0, 0))) := Lib.hid (by rw [HT.out]; exact heap_alloc2_old _ _ _)
  have HB : Hid (((w.alloc (.cells (c.setIfInBounds 9 (.int .u32 v)) 63)).alloc (.cells VS.zero.c 63)).heap[w.heap.size + 1]? = some (.cells VS.zero.c 63 (0, 0))) := Lib.hid (heap_alloc2_new _ _ _)
  have hbl := ((Below.refl w.heap.size w).alloc (Nat.le_refl _) (.cells (c.setIfInBounds 9 (.int .u32 v)) 63)).alloc (by simp) (.cells VS.zero.c 63)
  go_enter Tryd.func124, Tryd.ntmps124
  go_wp2_with (first | (refine wpList_load_row rfl 63 _ rfl w.heap.size rfl 63 d (0, 0) _ HA.out Tryd.underlying63 rfl HI.out ?_) | (refine wpList_store_row rfl 63 _ _ rfl (w.heap.size + 1) d rfl rfl 63 VS.zero.c HB.out HI.out HSZ.out HO.out ?_))
  exact bodyPost_ret (v := .agg d) (results_cell_row rfl _ _ (w.heap.size + 1) 63 d (0, 0) _ rfl (setRow_heap _ _ _ _ _ _ HB.out) Tryd.underlying63 rfl HI.out) rfl ⟨rfl, below_setRow (hbl) (by simp) _⟩

set_option maxRecDepth 100000 in
set_option maxHeartbeats 2000000 in
theorem vs_queue_0_144 (c d : Array Value) (v : Nat) (w : World) (hc3 : c[3]? = some (.int .u32 0)) (hdz : d.size = 21) (hone : d.all (·.oneCell') = true) (hczi : c.size = 21)
    (hT : (c.setIfInBounds 10 (.int .u32 v)) = d)
    (hc7 : c[7]? = some (.bool false)) :
    Calls Tryd.prog 124 #[.agg c, .int .u32 144, .int .u32 v] w fun e w' => e = .returned (.agg d) ∧ Below w.heap.size w w' := by
  have HT := Lib.hid hT
  have HI := Lib.hid (show (Tryd.prog.info? 63).map (·.size) = some d.size by rw [hdz]; kernel_rfl)
  have HIC := Lib.hid (show (Tryd.prog.info? 63).map (·.size) = some c.size by rw [hczi]; kernel_rfl)
  have HO := Lib.hid hone
  have HSZ : Hid (VS.zero.c.size = d.size) := Lib.hid (by rw [hdz]; rfl)
  have H0 := Lib.hid (show ((w.alloc (.cells c 63)).alloc (.cells VS.zero.c 63)).heap[w.heap.size]? = some (.cells c 63 (0, 0)) from heap_alloc2_old _ _ _)
  have hz0 : ((w.alloc (.cells c 63)).alloc (.cells VS.zero.c 63)).heap[w.heap.size + 1]? = some (.cells VS.zero.c 63 (0, 0)) := heap_alloc2_new _ _ _
  have HZ0 := Lib.hid hz0
  have hbl0 := ((Below.refl w.heap.size w).alloc (Nat.le_refl _) (.cells c 63)).alloc (by simp) (.cells VS.zero.c 63)
  have HBL0 := Lib.hid hbl0
  have hg3 := get_of hc3
  clear hone hT hbl0 hz0 hdz

  have hg7 := get_of hc7
  have HA : Hid (((w.alloc (.cells (c.setIfInBounds 10 (.int .u32 v)) 63)).alloc (.cells VS.zero.c 63)).heap[w.heap.size]? = some (.cells d 63 (0, 0))) := Lib.hid (by rw [HT.out]; exact heap_alloc2_old _ _ _)
  have HB : Hid (((w.alloc (.cells (c.setIfInBounds 10 (.int .u32 v)) 63)).alloc (.cells VS.zero.c 63)).heap[w.heap.size + 1]? = some (.cells VS.zero.c 63 (0, 0))) := Lib.hid (heap_alloc2_new _ _ _)
  have hbl := ((Below.refl w.heap.size w).alloc (Nat.le_refl _) (.cells (c.setIfInBounds 10 (.int .u32 v)) 63)).alloc (by simp) (.cells VS.zero.c 63)
  go_enter Tryd.func124, Tryd.ntmps124
  go_wp2_with (first | (refine wpList_load_row rfl 63 _ rfl w.heap.size rfl 63 d (0, 0) _ HA.out Tryd.underlying63 rfl HI.out ?_) | (refine wpList_store_row rfl 63 _ _ rfl (w.heap.size + 1) d rfl rfl 63 VS.zero.c HB.out HI.out HSZ.out HO.out ?_))
  exact bodyPost_ret (v := .agg d) (results_cell_row rfl _ _ (w.heap.size + 1) 63 d (0, 0) _ rfl (setRow_heap _ _ _ _ _ _ HB.out) Tryd.underlying63 rfl HI.out) rfl ⟨rfl, below_setRow (hbl) (by simp) _⟩

set_option maxRecDepth 100000 in
set_option maxHeartbeats 2000000 in
theorem vs_queue_0_160 (c d : Array Value) (v : Nat) (w : World) (hc3 : c[3]? = some (.int .u32 0)) (hdz : d.size = 21) (hone : d.all (·.oneCell') = true) (hczi : c.size = 21)
    (hT : (c.setIfInBounds 11 (.int .u32 v)) = d)
    (hc7 : c[7]? = some (.bool false)) :
    Calls Tryd.prog 124 #[.agg c, .int .u32 160, .int .u32 v] w fun e w' => e = .returned (.agg d) ∧ Below w.heap.size w w' := by
  have HT := Lib.hid hT
  have HI := Lib.hid (show (Tryd.prog.info? 63).map (·.size) = some d.size by rw [hdz]; kernel_rfl)
  have HIC := Lib.hid (show (Tryd.prog.info? 63).map (·.size) = some c.size by rw [hczi]; kernel_rfl)
  have HO := Lib.hid hone
  have HSZ : Hid (VS.zero.c.size = d.size) := Lib.hid (by rw [hdz]; rfl)
  have H0 := Lib.hid (show ((w.alloc (.cells c 63)).alloc (.cells VS.zero.c 63)).heap[w.heap.size]? = some (.cells c 63 (0, 0)) from heap_alloc2_old _ _ _)
  have hz0 : ((w.alloc (.cells c 63)).alloc (.cells VS.zero.c 63)).heap[w.heap.size + 1]? = some (.cells VS.zero.c 63 (0, 0)) := heap_alloc2_new _ _ _
  have HZ0 := Lib.hid hz0
  have hbl0 := ((Below.refl w.heap.size w).alloc (Nat.le_refl _) (.cells c 63)).alloc (by simp) (.cells VS.zero.c 63)
  have HBL0 := Lib.hid hbl0
  have hg3 := get_of hc3
  clear hone hT hbl0 hz0 hdz

  have hg7 := get_of hc7
  have HA : Hid (((w.alloc (.cells (c.setIfInBounds 11 (.int .u32 v)) 63)).alloc (.cells VS.zero.c 63)).heap[w.heap.size]? = some (.cells d 63 (0, 0))) := Lib.hid (by rw [HT.out]; exact heap_alloc2_old _ _ _)
  have HB : Hid (((w.alloc (.cells (c.setIfInBounds 11 (.int .u32 v)) 63)).alloc (.cells VS.zero.c 63)).heap[w.heap.size + 1]? = some (.cells VS.zero.c 63 (0, 0))) := Lib.hid (heap_alloc2_new _ _ _)
  have hbl := ((Below.refl w.heap.size w).alloc (Nat.le_refl _) (.cells (c.setIfInBounds 11 (.int .u32 v)) 63)).alloc (by simp) (.cells VS.zero.c 63)
  go_enter Tryd.func124, Tryd.ntmps124
  go_wp2_with (first | (refine wpList_load_row rfl 63 _ rfl w.heap.size rfl 63 d (0, 0) _ HA.out Tryd.underlying63 rfl HI.out ?_) | (refine wpList_store_row rfl 63 _ _ rfl (w.heap.size + 1) d rfl rfl 63 VS.zero.c HB.out HI.out HSZ.out HO.out ?_))
  exact bodyPost_ret (v := .agg d) (results_cell_row rfl _ _ (w.heap.size + 1) 63 d (0, 0) _ rfl (setRow_heap _ _ _ _ _ _ HB.out) Tryd.underlying63 rfl HI.out) rfl ⟨rfl, below_setRow (hbl) (by simp) _⟩

set_option maxRecDepth 100000 in
set_option maxHeartbeats 2000000 in
theorem vs_queue_0_132z (c d : Array Value) (w : World) (hc3 : c[3]? = some (.int .u32 0)) (hdz : d.size = 21) (hone : d.all (·.oneCell') = true) (hczi : c.size = 21)
    (hT : c = d)
    (hc7 : c[7]? = some (.bool false)) :
    Calls Tryd.prog 124 #[.agg c, .int .u32 132, .int .u32 0] w fun e w' => e = .returned (.agg d) ∧ Below w.heap.size w w' := by
  have HT := Lib.hid hT
  have HI := Lib.hid (show (Tryd.prog.info? 63).map (·.size) = some d.size by rw [hdz]; kernel_rfl)
  have HIC := Lib.hid (show (Tryd.prog.info? 63).map (·.size) = some c.size by rw [hczi]; kernel_rfl)
  have HO := Lib.hid hone
  have HSZ : Hid (VS.zero.c.size = d.size) := Lib.hid (by rw [hdz]; rfl)
  have H0 := Lib.hid (show ((w.alloc (.cells c 63)).alloc (.cells VS.zero.c 63)).heap[w.heap.size]? = some (.cells c 63 (0, 0)) from heap_alloc2_old _ _ _)
  have hz0 : ((w.alloc (.cells c 63)).alloc (.cells VS.zero.c 63)).heap[w.heap.size + 1]? = some (.cells VS.zero.c 63 (0, 0)) := heap_alloc2_new _ _ _
  have HZ0 := Lib.hid hz0
  have hbl0 := ((Below.refl w.heap.size w).alloc (Nat.le_refl _) (.cells c 63)).alloc (by simp) (.cells VS.zero.c 63)
  have HBL0 := Lib.hid hbl0
  have hg3 := get_of hc3
  clear hone hT hbl0 hz0 hdz

  have hg7 := get_of hc7
  have HA : Hid (((w.alloc (.cells c 63)).alloc (.cells VS.zero.c 63)).heap[w.heap.size]? = some (.cells d 63 (0, 0))) := Lib.hid (by rw [← HT.out]; exact heap_alloc2_old _ _ _)
  go_enter Tryd.func124, Tryd.ntmps124
  go_wp2_with (first | (refine wpList_load_row rfl 63 _ rfl w.heap.size rfl 63 d (0, 0) _ HA.out Tryd.underlying63 rfl HI.out ?_) | (refine wpList_store_row rfl 63 _ _ rfl (w.heap.size + 1) d rfl rfl 63 VS.zero.c HZ0.out HI.out HSZ.out HO.out ?_))
  exact bodyPost_ret (v := .agg d) (results_cell_row rfl _ _ (w.heap.size + 1) 63 d (0, 0) _ rfl (setRow_heap _ _ _ _ _ _ HZ0.out) Tryd.underlying63 rfl HI.out) rfl ⟨rfl, below_setRow (HBL0.out) (by simp) _⟩

set_option maxRecDepth 100000 in
set_option maxHeartbeats 2000000 in
theorem vs_queue_0_132n (c d : Array Value) (v : Nat) (w : World) (hc3 : c[3]? = some (.int .u32 0)) (hdz : d.size = 21) (hone : d.all (·.oneCell') = true) (hczi : c.size = 21)
    (hT : True)
    (hc7 : c[7]? = some (.bool false))
    (hv : ((v : Int) != 0) = true)
    (HF : Hid (∀ W, Calls Tryd.prog 30 #[.agg c] W fun e w' => e = .returned (.agg d) ∧ Below W.heap.size W w')) :
    Calls Tryd.prog 124 #[.agg c, .int .u32 132, .int .u32 v] w fun e w' => e = .returned (.agg d) ∧ Below w.heap.size w w' := by
  have HT := Lib.hid hT
  have HI := Lib.hid (show (Tryd.prog.info? 63).map (·.size) = some d.size by rw [hdz]; kernel_rfl)
  have HIC := Lib.hid (show (Tryd.prog.info? 63).map (·.size) = some c.size by rw [hczi]; kernel_rfl)
  have HO := Lib.hid hone
  have HSZ : Hid (VS.zero.c.size = d.size) := Lib.hid (by rw [hdz]; rfl)
  have H0 := Lib.hid (show ((w.alloc (.cells c 63)).alloc (.cells VS.zero.c 63)).heap[w.heap.size]? = some (.cells c 63 (0, 0)) from heap_alloc2_old _ _ _)
  have hz0 : ((w.alloc (.cells c 63)).alloc (.cells VS.zero.c 63)).heap[w.heap.size + 1]? = some (.cells VS.zero.c 63 (0, 0)) := heap_alloc2_new _ _ _
  have HZ0 := Lib.hid hz0
  have hbl0 := ((Below.refl w.heap.size w).alloc (Nat.le_refl _) (.cells c 63)).alloc (by simp) (.cells VS.zero.c 63)
  have HBL0 := Lib.hid hbl0
  have hg3 := get_of hc3
  clear hone hT hbl0 hz0 hdz

  have hg7 := get_of hc7
  go_enter Tryd.func124, Tryd.ntmps124
  go_wp2_with (refine wpList_load_row rfl 63 _ rfl w.heap.size rfl 63 c (0, 0) _ H0.out Tryd.underlying63 rfl HIC.out ?_)
  refine (HF.out _).mono ?_
  rintro e w2 ⟨rfl, hb⟩
  have HZ2 := Lib.hid (below_cells HZ0.out hb)
  have HBL2 := Lib.hid (HBL0.out.trans (hb.mono HBL0.out.size))
  clear hb
  go_wp2_with (refine wpList_store_row rfl 63 _ _ rfl (w.heap.size + 1) d rfl rfl 63 VS.zero.c HZ2.out HI.out HSZ.out HO.out ?_)
  exact bodyPost_ret (v := .agg d) (results_cell_row rfl _ _ (w.heap.size + 1) 63 d (0, 0) _ rfl (setRow_heap _ _ _ _ _ _ HZ2.out) Tryd.underlying63 rfl HI.out) rfl ⟨rfl, below_setRow (HBL2.out) (by simp) _⟩

set_option maxRecDepth 100000 in
set_option maxHeartbeats 2000000 in
theorem vs_queue_0_148z (c d : Array Value) (w : World) (hc3 : c[3]? = some (.int .u32 0)) (hdz : d.size = 21) (hone : d.all (·.oneCell') = true) (hczi : c.size = 21)
    (hT : c = d)
    (hc7 : c[7]? = some (.bool false)) :
    Calls Tryd.prog 124 #[.agg c, .int .u32 148, .int .u32 0] w fun e w' => e = .returned (.agg d) ∧ Below w.heap.size w w' := by
  have HT := Lib.hid hT
  have HI := Lib.hid (show (Tryd.prog.info? 63).map (·.size) = some d.size by rw [hdz]; kernel_rfl)
  have HIC := Lib.hid (show (Tryd.prog.info? 63).map (·.size) = some c.size by rw [hczi]; kernel_rfl)
  have HO := Lib.hid hone
  have HSZ : Hid (VS.zero.c.size = d.size) := Lib.hid (by rw [hdz]; rfl)
  have H0 := Lib.hid (show ((w.alloc (.cells c 63)).alloc (.cells VS.zero.c 63)).heap[w.heap.size]? = some (.cells c 63 (0, 0)) from heap_alloc2_old _ _ _)
  have hz0 : ((w.alloc (.cells c 63)).alloc (.cells VS.zero.c 63)).heap[w.heap.size + 1]? = some (.cells VS.zero.c 63 (0, 0)) := heap_alloc2_new _ _ _
  have HZ0 := Lib.hid hz0
  have hbl0 := ((Below.refl w.heap.size w).alloc (Nat.le_refl _) (.cells c 63)).alloc (by simp) (.cells VS.zero.c 63)
  have HBL0 := Lib.hid hbl0
  have hg3 := get_of hc3
  clear hone hT hbl0 hz0 hdz

  have hg7 := get_of hc7
  have HA : Hid (((w.alloc (.cells c 63)).alloc (.cells VS.zero.c 63)).heap[w.heap.size]? = some (.cells d 63 (0, 0))) := Lib.hid (by rw [← HT.out]; exact heap_alloc2_old _ _ _)
  go_enter Tryd.func124, Tryd.ntmps124
  go_wp2_with (first | (refine wpList_load_row rfl 63 _ rfl w.heap.size rfl 63 d (0, 0) _ HA.out Tryd.underlying63 rfl HI.out ?_) | (refine wpList_store_row rfl 63 _ _ rfl (w.heap.size + 1) d rfl rfl 63 VS.zero.c HZ0.out HI.out HSZ.out HO.out ?_))
  exact bodyPost_ret (v := .agg d) (results_cell_row rfl _ _ (w.heap.size + 1) 63 d (0, 0) _ rfl (setRow_heap _ _ _ _ _ _ HZ0.out) Tryd.underlying63 rfl HI.out) rfl ⟨rfl, below_setRow (HBL0.out) (by simp) _⟩

set_option maxRecDepth 100000 in
set_option maxHeartbeats 2000000 in
theorem vs_queue_0_148n (c d : Array Value) (v : Nat) (w : World) (hc3 : c[3]? = some (.int .u32 0)) (hdz : d.size = 21) (hone : d.all (·.oneCell') = true) (hczi : c.size = 21)
    (hT : True)
    (hc7 : c[7]? = some (.bool false))
    (hv : ((v : Int) != 0) = true)
    (HF : Hid (∀ W, Calls Tryd.prog 30 #[.agg c] W fun e w' => e = .returned (.agg d) ∧ Below W.heap.size W w')) :
    Calls Tryd.prog 124 #[.agg c, .int .u32 148, .int .u32 v] w fun e w' => e = .returned (.agg d) ∧ Below w.heap.size w w' := by
  have HT := Lib.hid hT
  have HI := Lib.hid (show (Tryd.prog.info? 63).map (·.size) = some d.size by rw [hdz]; kernel_rfl)
  have HIC := Lib.hid (show (Tryd.prog.info? 63).map (·.size) = some c.size by rw [hczi]; kernel_rfl)
  have HO := Lib.hid hone
  have HSZ : Hid (VS.zero.c.size = d.size) := Lib.hid (by rw [hdz]; rfl)
  have H0 := Lib.hid (show ((w.alloc (.cells c 63)).alloc (.cells VS.zero.c 63)).heap[w.heap.size]? = some (.cells c 63 (0, 0)) from heap_alloc2_old _ _ _)
  have hz0 : ((w.alloc (.cells c 63)).alloc (.cells VS.zero.c 63)).heap[w.heap.size + 1]? = some (.cells VS.zero.c 63 (0, 0)) := heap_alloc2_new _ _ _
  have HZ0 := Lib.hid hz0
  have hbl0 := ((Below.refl w.heap.size w).alloc (Nat.le_refl _) (.cells c 63)).alloc (by simp) (.cells VS.zero.c 63)
  have HBL0 := Lib.hid hbl0
  have hg3 := get_of hc3
  clear hone hT hbl0 hz0 hdz

  have hg7 := get_of hc7
  go_enter Tryd.func124, Tryd.ntmps124
  go_wp2_with (refine wpList_load_row rfl 63 _ rfl w.heap.size rfl 63 c (0, 0) _ H0.out Tryd.underlying63 rfl HIC.out ?_)
  refine (HF.out _).mono ?_
  rintro e w2 ⟨rfl, hb⟩
  have HZ2 := Lib.hid (below_cells HZ0.out hb)
  have HBL2 := Lib.hid (HBL0.out.trans (hb.mono HBL0.out.size))
  clear hb
  go_wp2_with (refine wpList_store_row rfl 63 _ _ rfl (w.heap.size + 1) d rfl rfl 63 VS.zero.c HZ2.out HI.out HSZ.out HO.out ?_)
  exact bodyPost_ret (v := .agg d) (results_cell_row rfl _ _ (w.heap.size + 1) 63 d (0, 0) _ rfl (setRow_heap _ _ _ _ _ _ HZ2.out) Tryd.underlying63 rfl HI.out) rfl ⟨rfl, below_setRow (HBL2.out) (by simp) _⟩

set_option maxRecDepth 100000 in
set_option maxHeartbeats 2000000 in
theorem vs_queue_0_164z (c d : Array Value) (w : World) (hc3 : c[3]? = some (.int .u32 0)) (hdz : d.size = 21) (hone : d.all (·.oneCell') = true) (hczi : c.size = 21)
    (hT : c = d)
    (hc7 : c[7]? = some (.bool false)) :
    Calls Tryd.prog 124 #[.agg c, .int .u32 164, .int .u32 0] w fun e w' => e = .returned (.agg d) ∧ Below w.heap.size w w' := by
  have HT := Lib.hid hT
  have HI := Lib.hid (show (Tryd.prog.info? 63).map (·.size) = some d.size by rw [hdz]; kernel_rfl)
  have HIC := Lib.hid (show (Tryd.prog.info? 63).map (·.size) = some c.size by rw [hczi]; kernel_rfl)
  have HO := Lib.hid hone
  have HSZ : Hid (VS.zero.c.size = d.size) := Lib.hid (by rw [hdz]; rfl)
  have H0 := Lib.hid (show ((w.alloc (.cells c 63)).alloc (.cells VS.zero.c 63)).heap[w.heap.size]? = some (.cells c 63 (0, 0)) from heap_alloc2_old _ _ _)
  have hz0 : ((w.alloc (.cells c 63)).alloc (.cells VS.zero.c 63)).heap[w.heap.size + 1]? = some (.cells VS.zero.c 63 (0, 0)) := heap_alloc2_new _ _ _
  have HZ0 := Lib.hid hz0
  have hbl0 := ((Below.refl w.heap.size w).alloc (Nat.le_refl _) (.cells c 63)).alloc (by simp) (.cells VS.zero.c 63)
  have HBL0 := Lib.hid hbl0
  have hg3 := get_of hc3
  clear hone hT hbl0 hz0 hdz

  have hg7 := get_of hc7
  have HA : Hid (((w.alloc (.cells c 63)).alloc (.cells VS.zero.c 63)).heap[w.heap.size]? = some (.cells d 63 (0, 0))) := Lib.hid (by rw [← HT.out]; exact heap_alloc2_old _ _ _)
  go_enter Tryd.func124, Tryd.ntmps124
  go_wp2_with (first | (refine wpList_load_row rfl 63 _ rfl w.heap.size rfl 63 d (0, 0) _ HA.out Tryd.underlying63 rfl HI.out ?_) | (refine wpList_store_row rfl 63 _ _ rfl (w.heap.size + 1) d rfl rfl 63 VS.zero.c HZ0.out HI.out HSZ.out HO.out ?_))
  exact bodyPost_ret (v := .agg d) (results_cell_row rfl _ _ (w.heap.size + 1) 63 d (0, 0) _ rfl (setRow_heap _ _ _ _ _ _ HZ0.out) Tryd.underlying63 rfl HI.out) rfl ⟨rfl, below_setRow (HBL0.out) (by simp) _⟩

set_option maxRecDepth 100000 in
set_option maxHeartbeats 2000000 in
theorem vs_queue_0_164n (c d : Array Value) (v : Nat) (w : World) (hc3 : c[3]? = some (.int .u32 0)) (hdz : d.size = 21) (hone : d.all (·.oneCell') = true) (hczi : c.size = 21)
    (hT : True)
    (hc7 : c[7]? = some (.bool false))
    (hv : ((v : Int) != 0) = true)
    (HF : Hid (∀ W, Calls Tryd.prog 30 #[.agg c] W fun e w' => e = .returned (.agg d) ∧ Below W.heap.size W w')) :
    Calls Tryd.prog 124 #[.agg c, .int .u32 164, .int .u32 v] w fun e w' => e = .returned (.agg d) ∧ Below w.heap.size w w' := by
  have HT := Lib.hid hT
  have HI := Lib.hid (show (Tryd.prog.info? 63).map (·.size) = some d.size by rw [hdz]; kernel_rfl)
  have HIC := Lib.hid (show (Tryd.prog.info? 63).map (·.size) = some c.size by rw [hczi]; kernel_rfl)
  have HO := Lib.hid hone
  have HSZ : Hid (VS.zero.c.size = d.size) := Lib.hid (by rw [hdz]; rfl)
  have H0 := Lib.hid (show ((w.alloc (.cells c 63)).alloc (.cells VS.zero.c 63)).heap[w.heap.size]? = some (.cells c 63 (0, 0)) from heap_alloc2_old _ _ _)
  have hz0 : ((w.alloc (.cells c 63)).alloc (.cells VS.zero.c 63)).heap[w.heap.size + 1]? = some (.cells VS.zero.c 63 (0, 0)) := heap_alloc2_new _ _ _
  have HZ0 := Lib.hid hz0
  have hbl0 := ((Below.refl w.heap.size w).alloc (Nat.le_refl _) (.cells c 63)).alloc (by simp) (.cells VS.zero.c 63)
  have HBL0 := Lib.hid hbl0
  have hg3 := get_of hc3
  clear hone hT hbl0 hz0 hdz

  have hg7 := get_of hc7
  go_enter Tryd.func124, Tryd.ntmps124
  go_wp2_with (refine wpList_load_row rfl 63 _ rfl w.heap.size rfl 63 c (0, 0) _ H0.out Tryd.underlying63 rfl HIC.out ?_)
  refine (HF.out _).mono ?_
  rintro e w2 ⟨rfl, hb⟩
  have HZ2 := Lib.hid (below_cells HZ0.out hb)
  have HBL2 := Lib.hid (HBL0.out.trans (hb.mono HBL0.out.size))
  clear hb
  go_wp2_with (refine wpList_store_row rfl 63 _ _ rfl (w.heap.size + 1) d rfl rfl 63 VS.zero.c HZ2.out HI.out HSZ.out HO.out ?_)
  exact bodyPost_ret (v := .agg d) (results_cell_row rfl _ _ (w.heap.size + 1) 63 d (0, 0) _ rfl (setRow_heap _ _ _ _ _ _ HZ2.out) Tryd.underlying63 rfl HI.out) rfl ⟨rfl, below_setRow (HBL2.out) (by simp) _⟩

set_option maxRecDepth 100000 in
set_option maxHeartbeats 2000000 in
theorem vs_queue_0_else (c d : Array Value) (at_ v : Nat) (w : World) (hc3 : c[3]? = some (.int .u32 0)) (hdz : d.size = 21) (hone : d.all (·.oneCell') = true) (hczi : c.size = 21)
    (hT : c = d)
    (hc7 : c[7]? = some (.bool false))
    (b68 : ((at_ : Int) == 68) = false)
    (b56 : ((at_ : Int) == 56) = false)
    (b128 : ((at_ : Int) == 128) = false)
    (b144 : ((at_ : Int) == 144) = false)
    (b160 : ((at_ : Int) == 160) = false)
    (b132 : ((at_ : Int) == 132) = false)
    (b148 : ((at_ : Int) == 148) = false)
    (b164 : ((at_ : Int) == 164) = false) :
    Calls Tryd.prog 124 #[.agg c, .int .u32 at_, .int .u32 v] w fun e w' => e = .returned (.agg d) ∧ Below w.heap.size w w' := by
  have HT := Lib.hid hT
  have HI := Lib.hid (show (Tryd.prog.info? 63).map (·.size) = some d.size by rw [hdz]; kernel_rfl)
  have HIC := Lib.hid (show (Tryd.prog.info? 63).map (·.size) = some c.size by rw [hczi]; kernel_rfl)
  have HO := Lib.hid hone
  have HSZ : Hid (VS.zero.c.size = d.size) := Lib.hid (by rw [hdz]; rfl)
  have H0 := Lib.hid (show ((w.alloc (.cells c 63)).alloc (.cells VS.zero.c 63)).heap[w.heap.size]? = some (.cells c 63 (0, 0)) from heap_alloc2_old _ _ _)
  have hz0 : ((w.alloc (.cells c 63)).alloc (.cells VS.zero.c 63)).heap[w.heap.size + 1]? = some (.cells VS.zero.c 63 (0, 0)) := heap_alloc2_new _ _ _
  have HZ0 := Lib.hid hz0
  have hbl0 := ((Below.refl w.heap.size w).alloc (Nat.le_refl _) (.cells c 63)).alloc (by simp) (.cells VS.zero.c 63)
  have HBL0 := Lib.hid hbl0
  have hg3 := get_of hc3
  clear hone hT hbl0 hz0 hdz

  have hg7 := get_of hc7
  have HA : Hid (((w.alloc (.cells c 63)).alloc (.cells VS.zero.c 63)).heap[w.heap.size]? = some (.cells d 63 (0, 0))) := Lib.hid (by rw [← HT.out]; exact heap_alloc2_old _ _ _)
  go_enter Tryd.func124, Tryd.ntmps124
  go_wp2_with (first | (refine wpList_load_row rfl 63 _ rfl w.heap.size rfl 63 d (0, 0) _ HA.out Tryd.underlying63 rfl HI.out ?_) | (refine wpList_store_row rfl 63 _ _ rfl (w.heap.size + 1) d rfl rfl 63 VS.zero.c HZ0.out HI.out HSZ.out HO.out ?_))
  exact bodyPost_ret (v := .agg d) (results_cell_row rfl _ _ (w.heap.size + 1) 63 d (0, 0) _ rfl (setRow_heap _ _ _ _ _ _ HZ0.out) Tryd.underlying63 rfl HI.out) rfl ⟨rfl, below_setRow (HBL0.out) (by simp) _⟩

set_option maxRecDepth 100000 in
set_option maxHeartbeats 2000000 in
theorem vs_queue_1_rdy (c d : Array Value) (at_ v : Nat) (w : World) (hc3 : c[3]? = some (.int .u32 1)) (hdz : d.size = 21) (hone : d.all (·.oneCell') = true) (hczi : c.size = 21)
    (hT : c = d)
    (hc14 : c[14]? = some (.bool true))
    (b0 : ((at_ : Int) == 68) = false) :
    Calls Tryd.prog 124 #[.agg c, .int .u32 at_, .int .u32 v] w fun e w' => e = .returned (.agg d) ∧ Below w.heap.size w w' := by
  have HT := Lib.hid hT
  have HI := Lib.hid (show (Tryd.prog.info? 63).map (·.size) = some d.size by rw [hdz]; kernel_rfl)
  have HIC := Lib.hid (show (Tryd.prog.info? 63).map (·.size) = some c.size by rw [hczi]; kernel_rfl)
  have HO := Lib.hid hone
  have HSZ : Hid (VS.zero.c.size = d.size) := Lib.hid (by rw [hdz]; rfl)
  have H0 := Lib.hid (show ((w.alloc (.cells c 63)).alloc (.cells VS.zero.c 63)).heap[w.heap.size]? = some (.cells c 63 (0, 0)) from heap_alloc2_old _ _ _)
  have hz0 : ((w.alloc (.cells c 63)).alloc (.cells VS.zero.c 63)).heap[w.heap.size + 1]? = some (.cells VS.zero.c 63 (0, 0)) := heap_alloc2_new _ _ _
  have HZ0 := Lib.hid hz0
  have hbl0 := ((Below.refl w.heap.size w).alloc (Nat.le_refl _) (.cells c 63)).alloc (by simp) (.cells VS.zero.c 63)
  have HBL0 := Lib.hid hbl0
  have hg3 := get_of hc3
  clear hone hT hbl0 hz0 hdz

  have hg14 := get_of hc14
  have HA : Hid (((w.alloc (.cells c 63)).alloc (.cells VS.zero.c 63)).heap[w.heap.size]? = some (.cells d 63 (0, 0))) := Lib.hid (by rw [← HT.out]; exact heap_alloc2_old _ _ _)
  go_enter Tryd.func124, Tryd.ntmps124
  go_wp2_with (first | (refine wpList_load_row rfl 63 _ rfl w.heap.size rfl 63 d (0, 0) _ HA.out Tryd.underlying63 rfl HI.out ?_) | (refine wpList_store_row rfl 63 _ _ rfl (w.heap.size + 1) d rfl rfl 63 VS.zero.c HZ0.out HI.out HSZ.out HO.out ?_))
  exact bodyPost_ret (v := .agg d) (results_cell_row rfl _ _ (w.heap.size + 1) 63 d (0, 0) _ rfl (setRow_heap _ _ _ _ _ _ HZ0.out) Tryd.underlying63 rfl HI.out) rfl ⟨rfl, below_setRow (HBL0.out) (by simp) _⟩

set_option maxRecDepth 100000 in
set_option maxHeartbeats 2000000 in
theorem vs_queue_1_56s (c d : Array Value) (v : Nat) (w : World) (hc3 : c[3]? = some (.int .u32 1)) (hdz : d.size = 21) (hone : d.all (·.oneCell') = true) (hczi : c.size = 21)
    (hT : (c.setIfInBounds 15 (.int .i64 v)) = d)
    (hc14 : c[14]? = some (.bool false))
    (hv : (v : Int) ≤ 256) :
    Calls Tryd.prog 124 #[.agg c, .int .u32 56, .int .u32 v] w fun e w' => e = .returned (.agg d) ∧ Below w.heap.size w w' := by
  have HT := Lib.hid hT
  have HI := Lib.hid (show (Tryd.prog.info? 63).map (·.size) = some d.size by rw [hdz]; kernel_rfl)
  have HIC := Lib.hid (show (Tryd.prog.info? 63).map (·.size) = some c.size by rw [hczi]; kernel_rfl)
  have HO := Lib.hid hone
  have HSZ : Hid (VS.zero.c.size = d.size) := Lib.hid (by rw [hdz]; rfl)
  have H0 := Lib.hid (show ((w.alloc (.cells c 63)).alloc (.cells VS.zero.c 63)).heap[w.heap.size]? = some (.cells c 63 (0, 0)) from heap_alloc2_old _ _ _)
  have hz0 : ((w.alloc (.cells c 63)).alloc (.cells VS.zero.c 63)).heap[w.heap.size + 1]? = some (.cells VS.zero.c 63 (0, 0)) := heap_alloc2_new _ _ _
  have HZ0 := Lib.hid hz0
  have hbl0 := ((Below.refl w.heap.size w).alloc (Nat.le_refl _) (.cells c 63)).alloc (by simp) (.cells VS.zero.c 63)
  have HBL0 := Lib.hid hbl0
  have hg3 := get_of hc3
  clear hone hT hbl0 hz0 hdz

  have hg14 := get_of hc14
  have HA : Hid (((w.alloc (.cells (c.setIfInBounds 15 (.int .i64 v)) 63)).alloc (.cells VS.zero.c 63)).heap[w.heap.size]? = some (.cells d 63 (0, 0))) := Lib.hid (by rw [HT.out]; exact heap_alloc2_old _ _ _)
  have HB : Hid (((w.alloc (.cells (c.setIfInBounds 15 (.int .i64 v)) 63)).alloc (.cells VS.zero.c 63)).heap[w.heap.size + 1]? = some (.cells VS.zero.c 63 (0, 0))) := Lib.hid (heap_alloc2_new _ _ _)
  have hbl := ((Below.refl w.heap.size w).alloc (Nat.le_refl _) (.cells (c.setIfInBounds 15 (.int .i64 v)) 63)).alloc (by simp) (.cells VS.zero.c 63)
  go_enter Tryd.func124, Tryd.ntmps124
  go_wp2_with (first | (refine wpList_load_row rfl 63 _ rfl w.heap.size rfl 63 d (0, 0) _ HA.out Tryd.underlying63 rfl HI.out ?_) | (refine wpList_store_row rfl 63 _ _ rfl (w.heap.size + 1) d rfl rfl 63 VS.zero.c HB.out HI.out HSZ.out HO.out ?_))
  exact bodyPost_ret (v := .agg d) (results_cell_row rfl _ _ (w.heap.size + 1) 63 d (0, 0) _ rfl (setRow_heap _ _ _ _ _ _ HB.out) Tryd.underlying63 rfl HI.out) rfl ⟨rfl, below_setRow (hbl) (by simp) _⟩

set_option maxRecDepth 100000 in
set_option maxHeartbeats 2000000 in
theorem vs_queue_1_56n (c d : Array Value) (v : Nat) (w : World) (hc3 : c[3]? = some (.int .u32 1)) (hdz : d.size = 21) (hone : d.all (·.oneCell') = true) (hczi : c.size = 21)
    (hT : c = d)
    (hc14 : c[14]? = some (.bool false))
    (hv : ¬ (v : Int) ≤ 256) :
    Calls Tryd.prog 124 #[.agg c, .int .u32 56, .int .u32 v] w fun e w' => e = .returned (.agg d) ∧ Below w.heap.size w w' := by
  have HT := Lib.hid hT
  have HI := Lib.hid (show (Tryd.prog.info? 63).map (·.size) = some d.size by rw [hdz]; kernel_rfl)
  have HIC := Lib.hid (show (Tryd.prog.info? 63).map (·.size) = some c.size by rw [hczi]; kernel_rfl)
  have HO := Lib.hid hone
  have HSZ : Hid (VS.zero.c.size = d.size) := Lib.hid (by rw [hdz]; rfl)
  have H0 := Lib.hid (show ((w.alloc (.cells c 63)).alloc (.cells VS.zero.c 63)).heap[w.heap.size]? = some (.cells c 63 (0, 0)) from heap_alloc2_old _ _ _)
  have hz0 : ((w.alloc (.cells c 63)).alloc (.cells VS.zero.c 63)).heap[w.heap.size + 1]? = some (.cells VS.zero.c 63 (0, 0)) := heap_alloc2_new _ _ _
  have HZ0 := Lib.hid hz0
  have hbl0 := ((Below.refl w.heap.size w).alloc (Nat.le_refl _) (.cells c 63)).alloc (by simp) (.cells VS.zero.c 63)
  have HBL0 := Lib.hid hbl0
  have hg3 := get_of hc3
  clear hone hT hbl0 hz0 hdz

  have hg14 := get_of hc14
  have HA : Hid (((w.alloc (.cells c 63)).alloc (.cells VS.zero.c 63)).heap[w.heap.size]? = some (.cells d 63 (0, 0))) := Lib.hid (by rw [← HT.out]; exact heap_alloc2_old _ _ _)
  go_enter Tryd.func124, Tryd.ntmps124
  go_wp2_with (first | (refine wpList_load_row rfl 63 _ rfl w.heap.size rfl 63 d (0, 0) _ HA.out Tryd.underlying63 rfl HI.out ?_) | (refine wpList_store_row rfl 63 _ _ rfl (w.heap.size + 1) d rfl rfl 63 VS.zero.c HZ0.out HI.out HSZ.out HO.out ?_))
  exact bodyPost_ret (v := .agg d) (results_cell_row rfl _ _ (w.heap.size + 1) 63 d (0, 0) _ rfl (setRow_heap _ _ _ _ _ _ HZ0.out) Tryd.underlying63 rfl HI.out) rfl ⟨rfl, below_setRow (HBL0.out) (by simp) _⟩

set_option maxRecDepth 100000 in
set_option maxHeartbeats 2000000 in
theorem vs_queue_1_128 (c d : Array Value) (v : Nat) (w : World) (hc3 : c[3]? = some (.int .u32 1)) (hdz : d.size = 21) (hone : d.all (·.oneCell') = true) (hczi : c.size = 21)
    (hT : (c.setIfInBounds 16 (.int .u32 v)) = d)
    (hc14 : c[14]? = some (.bool false)) :
    Calls Tryd.prog 124 #[.agg c, .int .u32 128, .int .u32 v] w fun e w' => e = .returned (.agg d) ∧ Below w.heap.size w w' := by
  have HT := Lib.hid hT
  have HI := Lib.hid (show (Tryd.prog.info? 63).map (·.size) = some d.size by rw [hdz]; kernel_rfl)
  have HIC := Lib.hid (show (Tryd.prog.info? 63).map (·.size) = some c.size by rw [hczi]; kernel_rfl)
  have HO := Lib.hid hone
  have HSZ : Hid (VS.zero.c.size = d.size) := Lib.hid (by rw [hdz]; rfl)
  have H0 := Lib.hid (show ((w.alloc (.cells c 63)).alloc (.cells VS.zero.c 63)).heap[w.heap.size]? = some (.cells c 63 (0, 0)) from heap_alloc2_old _ _ _)
  have hz0 : ((w.alloc (.cells c 63)).alloc (.cells VS.zero.c 63)).heap[w.heap.size + 1]? = some (.cells VS.zero.c 63 (0, 0)) := heap_alloc2_new _ _ _
  have HZ0 := Lib.hid hz0
  have hbl0 := ((Below.refl w.heap.size w).alloc (Nat.le_refl _) (.cells c 63)).alloc (by simp) (.cells VS.zero.c 63)
  have HBL0 := Lib.hid hbl0
  have hg3 := get_of hc3
  clear hone hT hbl0 hz0 hdz

  have hg14 := get_of hc14
  have HA : Hid (((w.alloc (.cells (c.setIfInBounds 16 (.int .u32 v)) 63)).alloc (.cells VS.zero.c 63)).heap[w.heap.size]? = some (.cells d 63 (0, 0))) := Lib.hid (by rw [HT.out]; exact heap_alloc2_old _ _ _)
  have HB : Hid (((w.alloc (.cells (c.setIfInBounds 16 (.int .u32 v)) 63)).alloc (.cells VS.zero.c 63)).heap[w.heap.size + 1]? = some (.cells VS.zero.c 63 (0, 0))) := Lib.hid (heap_alloc2_new _ _ _)
  have hbl := ((Below.refl w.heap.size w).alloc (Nat.le_refl _) (.cells (c.setIfInBounds 16 (.int .u32 v)) 63)).alloc (by simp) (.cells VS.zero.c 63)
  go_enter Tryd.func124, Tryd.ntmps124
  go_wp2_with (first | (refine wpList_load_row rfl 63 _ rfl w.heap.size rfl 63 d (0, 0) _ HA.out Tryd.underlying63 rfl HI.out ?_) | (refine wpList_store_row rfl 63 _ _ rfl (w.heap.size + 1) d rfl rfl 63 VS.zero.c HB.out HI.out HSZ.out HO.out ?_))
  exact bodyPost_ret (v := .agg d) (results_cell_row rfl _ _ (w.heap.size + 1) 63 d (0, 0) _ rfl (setRow_heap _ _ _ _ _ _ HB.out) Tryd.underlying63 rfl HI.out) rfl ⟨rfl, below_setRow (hbl) (by simp) _⟩

set_option maxRecDepth 100000 in
set_option maxHeartbeats 2000000 in
theorem vs_queue_1_144 (c d : Array Value) (v : Nat) (w : World) (hc3 : c[3]? = some (.int .u32 1)) (hdz : d.size = 21) (hone : d.all (·.oneCell') = true) (hczi : c.size = 21)
    (hT : (c.setIfInBounds 17 (.int .u32 v)) = d)
    (hc14 : c[14]? = some (.bool false)) :
    Calls Tryd.prog 124 #[.agg c, .int .u32 144, .int .u32 v] w fun e w' => e = .returned (.agg d) ∧ Below w.heap.size w w' := by
  have HT := Lib.hid hT
  have HI := Lib.hid (show (Tryd.prog.info? 63).map (·.size) = some d.size by rw [hdz]; kernel_rfl)
  have HIC := Lib.hid (show (Tryd.prog.info? 63).map (·.size) = some c.size by rw [hczi]; kernel_rfl)
  have HO := Lib.hid hone
  have HSZ : Hid (VS.zero.c.size = d.size) := Lib.hid (by rw [hdz]; rfl)
  have H0 := Lib.hid (show ((w.alloc (.cells c 63)).alloc (.cells VS.zero.c 63)).heap[w.heap.size]? = some (.cells c 63 (0, 0)) from heap_alloc2_old _ _ _)
  have hz0 : ((w.alloc (.cells c 63)).alloc (.cells VS.zero.c 63)).heap[w.heap.size + 1]? = some (.cells VS.zero.c 63 (0, 0)) := heap_alloc2_new _ _ _
  have HZ0 := Lib.hid hz0
  have hbl0 := ((Below.refl w.heap.size w).alloc (Nat.le_refl _) (.cells c 63)).alloc (by simp) (.cells VS.zero.c 63)
  have HBL0 := Lib.hid hbl0
  have hg3 := get_of hc3
  clear hone hT hbl0 hz0 hdz

  have hg14 := get_of hc14
  have HA : Hid (((w.alloc (.cells (c.setIfInBounds 17 (.int .u32 v)) 63)).alloc (.cells VS.zero.c 63)).heap[w.heap.size]? = some (.cells d 63 (0, 0))) := Lib.hid (by rw [HT.out]; exact heap_alloc2_old _ _ _)
  have HB : Hid (((w.alloc (.cells (c.setIfInBounds 17 (.int .u32 v)) 63)).alloc (.cells VS.zero.c 63)).heap[w.heap.size + 1]? = some (.cells VS.zero.c 63 (0, 0))) := Lib.hid (heap_alloc2_new _ _ _)
  have hbl := ((Below.refl w.heap.size w).alloc (Nat.le_refl _) (.cells (c.setIfInBounds 17 (.int .u32 v)) 63)).alloc (by simp) (.cells VS.zero.c 63)
  go_enter Tryd.func124, Tryd.ntmps124
  go_wp2_with (first | (refine wpList_load_row rfl 63 _ rfl w.heap.size rfl 63 d (0, 0) _ HA.out Tryd.underlying63 rfl HI.out ?_) | (refine wpList_store_row rfl 63 _ _ rfl (w.heap.size + 1) d rfl rfl 63 VS.zero.c HB.out HI.out HSZ.out HO.out ?_))
  exact bodyPost_ret (v := .agg d) (results_cell_row rfl _ _ (w.heap.size + 1) 63 d (0, 0) _ rfl (setRow_heap _ _ _ _ _ _ HB.out) Tryd.underlying63 rfl HI.out) rfl ⟨rfl, below_setRow (hbl) (by simp) _⟩

set_option maxRecDepth 100000 in
set_option maxHeartbeats 2000000 in
theorem vs_queue_1_160 (c d : Array Value) (v : Nat) (w : World) (hc3 : c[3]? = some (.int .u32 1)) (hdz : d.size = 21) (hone : d.all (·.oneCell') = true) (hczi : c.size = 21)
    (hT : (c.setIfInBounds 18 (.int .u32 v)) = d)
    (hc14 : c[14]? = some (.bool false)) :
    Calls Tryd.prog 124 #[.agg c, .int .u32 160, .int .u32 v] w fun e w' => e = .returned (.agg d) ∧ Below w.heap.size w w' := by
  have HT := Lib.hid hT
  have HI := Lib.hid (show (Tryd.prog.info? 63).map (·.size) = some d.size by rw [hdz]; kernel_rfl)
  have HIC := Lib.hid (show (Tryd.prog.info? 63).map (·.size) = some c.size by rw [hczi]; kernel_rfl)
  have HO := Lib.hid hone
  have HSZ : Hid (VS.zero.c.size = d.size) := Lib.hid (by rw [hdz]; rfl)
  have H0 := Lib.hid (show ((w.alloc (.cells c 63)).alloc (.cells VS.zero.c 63)).heap[w.heap.size]? = some (.cells c 63 (0, 0)) from heap_alloc2_old _ _ _)
  have hz0 : ((w.alloc (.cells c 63)).alloc (.cells VS.zero.c 63)).heap[w.heap.size + 1]? = some (.cells VS.zero.c 63 (0, 0)) := heap_alloc2_new _ _ _
  have HZ0 := Lib.hid hz0
  have hbl0 := ((Below.refl w.heap.size w).alloc (Nat.le_refl _) (.cells c 63)).alloc (by simp) (.cells VS.zero.c 63)
  have HBL0 := Lib.hid hbl0
  have hg3 := get_of hc3
  clear hone hT hbl0 hz0 hdz

  have hg14 := get_of hc14
  have HA : Hid (((w.alloc (.cells (c.setIfInBounds 18 (.int .u32 v)) 63)).alloc (.cells VS.zero.c 63)).heap[w.heap.size]? = some (.cells d 63 (0, 0))) := Lib.hid (by rw [HT.out]; exact heap_alloc2_old _ _ _)
  have HB : Hid (((w.alloc (.cells (c.setIfInBounds 18 (.int .u32 v)) 63)).alloc (.cells VS.zero.c 63)).heap[w.heap.size + 1]? = some (.cells VS.zero.c 63 (0, 0))) := Lib.hid (heap_alloc2_new _ _ _)
  have hbl := ((Below.refl w.heap.size w).alloc (Nat.le_refl _) (.cells (c.setIfInBounds 18 (.int .u32 v)) 63)).alloc (by simp) (.cells VS.zero.c 63)
  go_enter Tryd.func124, Tryd.ntmps124
  go_wp2_with (first | (refine wpList_load_row rfl 63 _ rfl w.heap.size rfl 63 d (0, 0) _ HA.out Tryd.underlying63 rfl HI.out ?_) | (refine wpList_store_row rfl 63 _ _ rfl (w.heap.size + 1) d rfl rfl 63 VS.zero.c HB.out HI.out HSZ.out HO.out ?_))
  exact bodyPost_ret (v := .agg d) (results_cell_row rfl _ _ (w.heap.size + 1) 63 d (0, 0) _ rfl (setRow_heap _ _ _ _ _ _ HB.out) Tryd.underlying63 rfl HI.out) rfl ⟨rfl, below_setRow (hbl) (by simp) _⟩

set_option maxRecDepth 100000 in
set_option maxHeartbeats 2000000 in
theorem vs_queue_1_132z (c d : Array Value) (w : World) (hc3 : c[3]? = some (.int .u32 1)) (hdz : d.size = 21) (hone : d.all (·.oneCell') = true) (hczi : c.size = 21)
    (hT : c = d)
    (hc14 : c[14]? = some (.bool false)) :
    Calls Tryd.prog 124 #[.agg c, .int .u32 132, .int .u32 0] w fun e w' => e = .returned (.agg d) ∧ Below w.heap.size w w' := by
  have HT := Lib.hid hT
  have HI := Lib.hid (show (Tryd.prog.info? 63).map (·.size) = some d.size by rw [hdz]; kernel_rfl)
  have HIC := Lib.hid (show (Tryd.prog.info? 63).map (·.size) = some c.size by rw [hczi]; kernel_rfl)
  have HO := Lib.hid hone
  have HSZ : Hid (VS.zero.c.size = d.size) := Lib.hid (by rw [hdz]; rfl)
  have H0 := Lib.hid (show ((w.alloc (.cells c 63)).alloc (.cells VS.zero.c 63)).heap[w.heap.size]? = some (.cells c 63 (0, 0)) from heap_alloc2_old _ _ _)
  have hz0 : ((w.alloc (.cells c 63)).alloc (.cells VS.zero.c 63)).heap[w.heap.size + 1]? = some (.cells VS.zero.c 63 (0, 0)) := heap_alloc2_new _ _ _
  have HZ0 := Lib.hid hz0
  have hbl0 := ((Below.refl w.heap.size w).alloc (Nat.le_refl _) (.cells c 63)).alloc (by simp) (.cells VS.zero.c 63)
  have HBL0 := Lib.hid hbl0
  have hg3 := get_of hc3
  clear hone hT hbl0 hz0 hdz

  have hg14 := get_of hc14
  have HA : Hid (((w.alloc (.cells c 63)).alloc (.cells VS.zero.c 63)).heap[w.heap.size]? = some (.cells d 63 (0, 0))) := Lib.hid (by rw [← HT.out]; exact heap_alloc2_old _ _ _)
  go_enter Tryd.func124, Tryd.ntmps124
  go_wp2_with (first | (refine wpList_load_row rfl 63 _ rfl w.heap.size rfl 63 d (0, 0) _ HA.out Tryd.underlying63 rfl HI.out ?_) | (refine wpList_store_row rfl 63 _ _ rfl (w.heap.size + 1) d rfl rfl 63 VS.zero.c HZ0.out HI.out HSZ.out HO.out ?_))
  exact bodyPost_ret (v := .agg d) (results_cell_row rfl _ _ (w.heap.size + 1) 63 d (0, 0) _ rfl (setRow_heap _ _ _ _ _ _ HZ0.out) Tryd.underlying63 rfl HI.out) rfl ⟨rfl, below_setRow (HBL0.out) (by simp) _⟩

set_option maxRecDepth 100000 in
set_option maxHeartbeats 2000000 in
theorem vs_queue_1_132n (c d : Array Value) (v : Nat) (w : World) (hc3 : c[3]? = some (.int .u32 1)) (hdz : d.size = 21) (hone : d.all (·.oneCell') = true) (hczi : c.size = 21)
    (hT : True)
    (hc14 : c[14]? = some (.bool false))
    (hv : ((v : Int) != 0) = true)
    (HF : Hid (∀ W, Calls Tryd.prog 30 #[.agg c] W fun e w' => e = .returned (.agg d) ∧ Below W.heap.size W w')) :
    Calls Tryd.prog 124 #[.agg c, .int .u32 132, .int .u32 v] w fun e w' => e = .returned (.agg d) ∧ Below w.heap.size w w' := by
  have HT := Lib.hid hT
  have HI := Lib.hid (show (Tryd.prog.info? 63).map (·.size) = some d.size by rw [hdz]; kernel_rfl)
  have HIC := Lib.hid (show (Tryd.prog.info? 63).map (·.size) = some c.size by rw [hczi]; kernel_rfl)
  have HO := Lib.hid hone
  have HSZ : Hid (VS.zero.c.size = d.size) := Lib.hid (by rw [hdz]; rfl)
  have H0 := Lib.hid (show ((w.alloc (.cells c 63)).alloc (.cells VS.zero.c 63)).heap[w.heap.size]? = some (.cells c 63 (0, 0)) from heap_alloc2_old _ _ _)
  have hz0 : ((w.alloc (.cells c 63)).alloc (.cells VS.zero.c 63)).heap[w.heap.size + 1]? = some (.cells VS.zero.c 63 (0, 0)) := heap_alloc2_new _ _ _
  have HZ0 := Lib.hid hz0
  have hbl0 := ((Below.refl w.heap.size w).alloc (Nat.le_refl _) (.cells c 63)).alloc (by simp) (.cells VS.zero.c 63)
  have HBL0 := Lib.hid hbl0
  have hg3 := get_of hc3
  clear hone hT hbl0 hz0 hdz

  have hg14 := get_of hc14
  go_enter Tryd.func124, Tryd.ntmps124
  go_wp2_with (refine wpList_load_row rfl 63 _ rfl w.heap.size rfl 63 c (0, 0) _ H0.out Tryd.underlying63 rfl HIC.out ?_)
  refine (HF.out _).mono ?_
  rintro e w2 ⟨rfl, hb⟩
  have HZ2 := Lib.hid (below_cells HZ0.out hb)
  have HBL2 := Lib.hid (HBL0.out.trans (hb.mono HBL0.out.size))
  clear hb
  go_wp2_with (refine wpList_store_row rfl 63 _ _ rfl (w.heap.size + 1) d rfl rfl 63 VS.zero.c HZ2.out HI.out HSZ.out HO.out ?_)
  exact bodyPost_ret (v := .agg d) (results_cell_row rfl _ _ (w.heap.size + 1) 63 d (0, 0) _ rfl (setRow_heap _ _ _ _ _ _ HZ2.out) Tryd.underlying63 rfl HI.out) rfl ⟨rfl, below_setRow (HBL2.out) (by simp) _⟩

set_option maxRecDepth 100000 in
set_option maxHeartbeats 2000000 in
theorem vs_queue_1_148z (c d : Array Value) (w : World) (hc3 : c[3]? = some (.int .u32 1)) (hdz : d.size = 21) (hone : d.all (·.oneCell') = true) (hczi : c.size = 21)
    (hT : c = d)
    (hc14 : c[14]? = some (.bool false)) :
    Calls Tryd.prog 124 #[.agg c, .int .u32 148, .int .u32 0] w fun e w' => e = .returned (.agg d) ∧ Below w.heap.size w w' := by
  have HT := Lib.hid hT
  have HI := Lib.hid (show (Tryd.prog.info? 63).map (·.size) = some d.size by rw [hdz]; kernel_rfl)
  have HIC := Lib.hid (show (Tryd.prog.info? 63).map (·.size) = some c.size by rw [hczi]; kernel_rfl)
  have HO := Lib.hid hone
  have HSZ : Hid (VS.zero.c.size = d.size) := Lib.hid (by rw [hdz]; rfl)
  have H0 := Lib.hid (show ((w.alloc (.cells c 63)).alloc (.cells VS.zero.c 63)).heap[w.heap.size]? = some (.cells c 63 (0, 0)) from heap_alloc2_old _ _ _)
  have hz0 : ((w.alloc (.cells c 63)).alloc (.cells VS.zero.c 63)).heap[w.heap.size + 1]? = some (.cells VS.zero.c 63 (0, 0)) := heap_alloc2_new _ _ _
  have HZ0 := Lib.hid hz0
  have hbl0 := ((Below.refl w.heap.size w).alloc (Nat.le_refl _) (.cells c 63)).alloc (by simp) (.cells VS.zero.c 63)
  have HBL0 := Lib.hid hbl0
  have hg3 := get_of hc3
  clear hone hT hbl0 hz0 hdz

  have hg14 := get_of hc14
  have HA : Hid (((w.alloc (.cells c 63)).alloc (.cells VS.zero.c 63)).heap[w.heap.size]? = some (.cells d 63 (0, 0))) := Lib.hid (by rw [← HT.out]; exact heap_alloc2_old _ _ _)
  go_enter Tryd.func124, Tryd.ntmps124
  go_wp2_with (first | (refine wpList_load_row rfl 63 _ rfl w.heap.size rfl 63 d (0, 0) _ HA.out Tryd.underlying63 rfl HI.out ?_) | (refine wpList_store_row rfl 63 _ _ rfl (w.heap.size + 1) d rfl rfl 63 VS.zero.c HZ0.out HI.out HSZ.out HO.out ?_))
  exact bodyPost_ret (v := .agg d) (results_cell_row rfl _ _ (w.heap.size + 1) 63 d (0, 0) _ rfl (setRow_heap _ _ _ _ _ _ HZ0.out) Tryd.underlying63 rfl HI.out) rfl ⟨rfl, below_setRow (HBL0.out) (by simp) _⟩

set_option maxRecDepth 100000 in
set_option maxHeartbeats 2000000 in
theorem vs_queue_1_148n (c d : Array Value) (v : Nat) (w : World) (hc3 : c[3]? = some (.int .u32 1)) (hdz : d.size = 21) (hone : d.all (·.oneCell') = true) (hczi : c.size = 21)
    (hT : True)
    (hc14 : c[14]? = some (.bool false))
    (hv : ((v : Int) != 0) = true)
    (HF : Hid (∀ W, Calls Tryd.prog 30 #[.agg c] W fun e w' => e = .returned (.agg d) ∧ Below W.heap.size W w')) :
    Calls Tryd.prog 124 #[.agg c, .int .u32 148, .int .u32 v] w fun e w' => e = .returned (.agg d) ∧ Below w.heap.size w w' := by
  have HT := Lib.hid hT
  have HI := Lib.hid (show (Tryd.prog.info? 63).map (·.size) = some d.size by rw [hdz]; kernel_rfl)
  have HIC := Lib.hid (show (Tryd.prog.info? 63).map (·.size) = some c.size by rw [hczi]; kernel_rfl)
  have HO := Lib.hid hone
  have HSZ : Hid (VS.zero.c.size = d.size) := Lib.hid (by rw [hdz]; rfl)
  have H0 := Lib.hid (show ((w.alloc (.cells c 63)).alloc (.cells VS.zero.c 63)).heap[w.heap.size]? = some (.cells c 63 (0, 0)) from heap_alloc2_old _ _ _)
  have hz0 : ((w.alloc (.cells c 63)).alloc (.cells VS.zero.c 63)).heap[w.heap.size + 1]? = some (.cells VS.zero.c 63 (0, 0)) := heap_alloc2_new _ _ _
  have HZ0 := Lib.hid hz0
  have hbl0 := ((Below.refl w.heap.size w).alloc (Nat.le_refl _) (.cells c 63)).alloc (by simp) (.cells VS.zero.c 63)
  have HBL0 := Lib.hid hbl0
  have hg3 := get_of hc3
  clear hone hT hbl0 hz0 hdz

  have hg14 := get_of hc14
  go_enter Tryd.func124, Tryd.ntmps124
  go_wp2_with (refine wpList_load_row rfl 63 _ rfl w.heap.size rfl 63 c (0, 0) _ H0.out Tryd.underlying63 rfl HIC.out ?_)
  refine (HF.out _).mono ?_
  rintro e w2 ⟨rfl, hb⟩
  have HZ2 := Lib.hid (below_cells HZ0.out hb)
  have HBL2 := Lib.hid (HBL0.out.trans (hb.mono HBL0.out.size))
  clear hb
  go_wp2_with (refine wpList_store_row rfl 63 _ _ rfl (w.heap.size + 1) d rfl rfl 63 VS.zero.c HZ2.out HI.out HSZ.out HO.out ?_)
  exact bodyPost_ret (v := .agg d) (results_cell_row rfl _ _ (w.heap.size + 1) 63 d (0, 0) _ rfl (setRow_heap _ _ _ _ _ _ HZ2.out) Tryd.underlying63 rfl HI.out) rfl ⟨rfl, below_setRow (HBL2.out) (by simp) _⟩

set_option maxRecDepth 100000 in
set_option maxHeartbeats 2000000 in
theorem vs_queue_1_164z (c d : Array Value) (w : World) (hc3 : c[3]? = some (.int .u32 1)) (hdz : d.size = 21) (hone : d.all (·.oneCell') = true) (hczi : c.size = 21)
    (hT : c = d)
    (hc14 : c[14]? = some (.bool false)) :
    Calls Tryd.prog 124 #[.agg c, .int .u32 164, .int .u32 0] w fun e w' => e = .returned (.agg d) ∧ Below w.heap.size w w' := by
  have HT := Lib.hid hT
  have HI := Lib.hid (show (Tryd.prog.info? 63).map (·.size) = some d.size by rw [hdz]; kernel_rfl)
  have HIC := Lib.hid (show (Tryd.prog.info? 63).map (·.size) = some c.size by rw [hczi]; kernel_rfl)
  have HO := Lib.hid hone
  have HSZ : Hid (VS.zero.c.size = d.size) := Lib.hid (by rw [hdz]; rfl)
  have H0 := Lib.hid (show ((w.alloc (.cells c 63)).alloc (.cells VS.zero.c 63)).heap[w.heap.size]? = some (.cells c 63 (0, 0)) from heap_alloc2_old _ _ _)
  have hz0 : ((w.alloc (.cells c 63)).alloc (.cells VS.zero.c 63)).heap[w.heap.size + 1]? = some (.cells VS.zero.c 63 (0, 0)) := heap_alloc2_new _ _ _
  have HZ0 := Lib.hid hz0
  have hbl0 := ((Below.refl w.heap.size w).alloc (Nat.le_refl _) (.cells c 63)).alloc (by simp) (.cells VS.zero.c 63)
  have HBL0 := Lib.hid hbl0
  have hg3 := get_of hc3
  clear hone hT hbl0 hz0 hdz

  have hg14 := get_of hc14
  have HA : Hid (((w.alloc (.cells c 63)).alloc (.cells VS.zero.c 63)).heap[w.heap.size]? = some (.cells d 63 (0, 0))) := Lib.hid (by rw [← HT.out]; exact heap_alloc2_old _ _ _)
  go_enter Tryd.func124, Tryd.ntmps124
  go_wp2_with (first | (refine wpList_load_row rfl 63 _ rfl w.heap.size rfl 63 d (0, 0) _ HA.out Tryd.underlying63 rfl HI.out ?_) | (refine wpList_store_row rfl 63 _ _ rfl (w.heap.size + 1) d rfl rfl 63 VS.zero.c HZ0.out HI.out HSZ.out HO.out ?_))
  exact bodyPost_ret (v := .agg d) (results_cell_row rfl _ _ (w.heap.size + 1) 63 d (0, 0) _ rfl (setRow_heap _ _ _ _ _ _ HZ0.out) Tryd.underlying63 rfl HI.out) rfl ⟨rfl, below_setRow (HBL0.out) (by simp) _⟩

set_option maxRecDepth 100000 in
set_option maxHeartbeats 2000000 in
theorem vs_queue_1_164n (c d : Array Value) (v : Nat) (w : World) (hc3 : c[3]? = some (.int .u32 1)) (hdz : d.size = 21) (hone : d.all (·.oneCell') = true) (hczi : c.size = 21)
    (hT : True)
    (hc14 : c[14]? = some (.bool false))
    (hv : ((v : Int) != 0) = true)
    (HF : Hid (∀ W, Calls Tryd.prog 30 #[.agg c] W fun e w' => e = .returned (.agg d) ∧ Below W.heap.size W w')) :
    Calls Tryd.prog 124 #[.agg c, .int .u32 164, .int .u32 v] w fun e w' => e = .returned (.agg d) ∧ Below w.heap.size w w' := by
  have HT := Lib.hid hT
  have HI := Lib.hid (show (Tryd.prog.info? 63).map (·.size) = some d.size by rw [hdz]; kernel_rfl)
  have HIC := Lib.hid (show (Tryd.prog.info? 63).map (·.size) = some c.size by rw [hczi]; kernel_rfl)
  have HO := Lib.hid hone
  have HSZ : Hid (VS.zero.c.size = d.size) := Lib.hid (by rw [hdz]; rfl)
  have H0 := Lib.hid (show ((w.alloc (.cells c 63)).alloc (.cells VS.zero.c 63)).heap[w.heap.size]? = some (.cells c 63 (0, 0)) from heap_alloc2_old _ _ _)
  have hz0 : ((w.alloc (.cells c 63)).alloc (.cells VS.zero.c 63)).heap[w.heap.size + 1]? = some (.cells VS.zero.c 63 (0, 0)) := heap_alloc2_new _ _ _
  have HZ0 := Lib.hid hz0
  have hbl0 := ((Below.refl w.heap.size w).alloc (Nat.le_refl _) (.cells c 63)).alloc (by simp) (.cells VS.zero.c 63)
  have HBL0 := Lib.hid hbl0
  have hg3 := get_of hc3
  clear hone hT hbl0 hz0 hdz

  have hg14 := get_of hc14
  go_enter Tryd.func124, Tryd.ntmps124
  go_wp2_with (refine wpList_load_row rfl 63 _ rfl w.heap.size rfl 63 c (0, 0) _ H0.out Tryd.underlying63 rfl HIC.out ?_)
  refine (HF.out _).mono ?_
  rintro e w2 ⟨rfl, hb⟩
  have HZ2 := Lib.hid (below_cells HZ0.out hb)
  have HBL2 := Lib.hid (HBL0.out.trans (hb.mono HBL0.out.size))
  clear hb
  go_wp2_with (refine wpList_store_row rfl 63 _ _ rfl (w.heap.size + 1) d rfl rfl 63 VS.zero.c HZ2.out HI.out HSZ.out HO.out ?_)
  exact bodyPost_ret (v := .agg d) (results_cell_row rfl _ _ (w.heap.size + 1) 63 d (0, 0) _ rfl (setRow_heap _ _ _ _ _ _ HZ2.out) Tryd.underlying63 rfl HI.out) rfl ⟨rfl, below_setRow (HBL2.out) (by simp) _⟩

set_option maxRecDepth 100000 in
set_option maxHeartbeats 2000000 in
theorem vs_queue_1_else (c d : Array Value) (at_ v : Nat) (w : World) (hc3 : c[3]? = some (.int .u32 1)) (hdz : d.size = 21) (hone : d.all (·.oneCell') = true) (hczi : c.size = 21)
    (hT : c = d)
    (hc14 : c[14]? = some (.bool false))
    (b68 : ((at_ : Int) == 68) = false)
    (b56 : ((at_ : Int) == 56) = false)
    (b128 : ((at_ : Int) == 128) = false)
    (b144 : ((at_ : Int) == 144) = false)
    (b160 : ((at_ : Int) == 160) = false)
    (b132 : ((at_ : Int) == 132) = false)
    (b148 : ((at_ : Int) == 148) = false)
    (b164 : ((at_ : Int) == 164) = false) :
    Calls Tryd.prog 124 #[.agg c, .int .u32 at_, .int .u32 v] w fun e w' => e = .returned (.agg d) ∧ Below w.heap.size w w' := by
  have HT := Lib.hid hT
  have HI := Lib.hid (show (Tryd.prog.info? 63).map (·.size) = some d.size by rw [hdz]; kernel_rfl)
  have HIC := Lib.hid (show (Tryd.prog.info? 63).map (·.size) = some c.size by rw [hczi]; kernel_rfl)
  have HO := Lib.hid hone
  have HSZ : Hid (VS.zero.c.size = d.size) := Lib.hid (by rw [hdz]; rfl)
  have H0 := Lib.hid (show ((w.alloc (.cells c 63)).alloc (.cells VS.zero.c 63)).heap[w.heap.size]? = some (.cells c 63 (0, 0)) from heap_alloc2_old _ _ _)
  have hz0 : ((w.alloc (.cells c 63)).alloc (.cells VS.zero.c 63)).heap[w.heap.size + 1]? = some (.cells VS.zero.c 63 (0, 0)) := heap_alloc2_new _ _ _
  have HZ0 := Lib.hid hz0
  have hbl0 := ((Below.refl w.heap.size w).alloc (Nat.le_refl _) (.cells c 63)).alloc (by simp) (.cells VS.zero.c 63)
  have HBL0 := Lib.hid hbl0
  have hg3 := get_of hc3
  clear hone hT hbl0 hz0 hdz

  have hg14 := get_of hc14
  have HA : Hid (((w.alloc (.cells c 63)).alloc (.cells VS.zero.c 63)).heap[w.heap.size]? = some (.cells d 63 (0, 0))) := Lib.hid (by rw [← HT.out]; exact heap_alloc2_old _ _ _)
  go_enter Tryd.func124, Tryd.ntmps124
  go_wp2_with (first | (refine wpList_load_row rfl 63 _ rfl w.heap.size rfl 63 d (0, 0) _ HA.out Tryd.underlying63 rfl HI.out ?_) | (refine wpList_store_row rfl 63 _ _ rfl (w.heap.size + 1) d rfl rfl 63 VS.zero.c HZ0.out HI.out HSZ.out HO.out ?_))
  exact bodyPost_ret (v := .agg d) (results_cell_row rfl _ _ (w.heap.size + 1) 63 d (0, 0) _ rfl (setRow_heap _ _ _ _ _ _ HZ0.out) Tryd.underlying63 rfl HI.out) rfl ⟨rfl, below_setRow (HBL0.out) (by simp) _⟩

end Go.Proofs.YtcbjlpkkebcmjaaDoor
