/-
virtio's ready, walked.
No condition.
-/
import Derived.Test.YtcbjlpkkebcmjaaDoorVioStat
namespace Go.Proofs.YtcbjlpkkebcmjaaDoor
open Go.RowKit

set_option maxRecDepth 100000 in
set_option maxHeartbeats 1000000 in
theorem vs_ready_0_0 (c d : Array Value) (w : World) (hc3 : c[3]? = some (.int .u32 0)) (hdz : d.size = 21) (hone : d.all (·.oneCell') = true) (hczi : c.size = 21)
    (hT : (c.setIfInBounds 7 (.bool false)) = d) :
    Calls Tryd.prog 148 #[.agg c, .int .u32 0] w fun e w' => e = .returned (.agg d) ∧ Below w.heap.size w w' := by
  have HT := Lib.hid hT
  have HI := Lib.hid (show (Tryd.prog.info? 63).map (·.size) = some d.size by rw [hdz]; kernel_rfl)
  have HIC := Lib.hid (show (Tryd.prog.info? 63).map (·.size) = some c.size by rw [hczi]; kernel_rfl)
  have HO := Lib.hid hone
  have HSZ : Hid (VS.zero.c.size = d.size) := Lib.hid (by rw [hdz]; rfl)
  have H0 := Lib.hid (show ((w.alloc (.cells c 63)).alloc (.cells VS.zero.c 63)).heap[w.heap.size]? = some (.cells c 63 (0, 0)) from heap_alloc2_old _ _ _)
  have hz0 : ((w.alloc (.cells c 63)).alloc (.cells VS.zero.c 63)).heap[w.heap.size + 1]? = some (.cells VS.zero.c 63 (0, 0)) := heap_alloc2_new _ _ _
  have HZ0 := Lib.hid hz0
  have hbl0 := ((Below.refl w.heap.size w).alloc (Nat.le_refl _) (.cells c 63)).alloc (by simp) (.cells VS.zero.c 63)
  have HBL0 := Lib.hid hbl0
  have hg3 := get_of hc3
  clear hone hT hbl0 hz0 hdz

  have HA : Hid (((w.alloc (.cells (c.setIfInBounds 7 (.bool false)) 63)).alloc (.cells VS.zero.c 63)).heap[w.heap.size]? = some (.cells d 63 (0, 0))) := Lib.hid (by rw [HT.out]; exact heap_alloc2_old _ _ _)
  have HB : Hid (((w.alloc (.cells (c.setIfInBounds 7 (.bool false)) 63)).alloc (.cells VS.zero.c 63)).heap[w.heap.size + 1]? = some (.cells VS.zero.c 63 (0, 0))) := Lib.hid (heap_alloc2_new _ _ _)
  have hbl := ((Below.refl w.heap.size w).alloc (Nat.le_refl _) (.cells (c.setIfInBounds 7 (.bool false)) 63)).alloc (by simp) (.cells VS.zero.c 63)
  go_enter Tryd.func148, Tryd.ntmps148
  go_wp2_with (first | (refine wpList_load_row rfl 63 _ rfl w.heap.size rfl 63 d (0, 0) _ HA.out Tryd.underlying63 rfl HI.out ?_) | (refine wpList_store_row rfl 63 _ _ rfl (w.heap.size + 1) d rfl rfl 63 VS.zero.c HB.out HI.out HSZ.out HO.out ?_))
  exact bodyPost_ret (v := .agg d) (results_cell_row rfl _ _ (w.heap.size + 1) 63 d (0, 0) _ rfl (setRow_heap _ _ _ _ _ _ HB.out) Tryd.underlying63 rfl HI.out) rfl ⟨rfl, below_setRow (hbl) (by simp) _⟩

set_option maxRecDepth 100000 in
set_option maxHeartbeats 1000000 in
theorem vs_ready_0_e (c d : Array Value) (v : Nat) (w : World) (hc3 : c[3]? = some (.int .u32 0)) (hdz : d.size = 21) (hone : d.all (·.oneCell') = true) (hczi : c.size = 21)
    (hT : c = d)
    (b0 : ((v : Int) == 0) = false)
    (b1 : ((v : Int) == 1) = false) :
    Calls Tryd.prog 148 #[.agg c, .int .u32 v] w fun e w' => e = .returned (.agg d) ∧ Below w.heap.size w w' := by
  have HT := Lib.hid hT
  have HI := Lib.hid (show (Tryd.prog.info? 63).map (·.size) = some d.size by rw [hdz]; kernel_rfl)
  have HIC := Lib.hid (show (Tryd.prog.info? 63).map (·.size) = some c.size by rw [hczi]; kernel_rfl)
  have HO := Lib.hid hone
  have HSZ : Hid (VS.zero.c.size = d.size) := Lib.hid (by rw [hdz]; rfl)
  have H0 := Lib.hid (show ((w.alloc (.cells c 63)).alloc (.cells VS.zero.c 63)).heap[w.heap.size]? = some (.cells c 63 (0, 0)) from heap_alloc2_old _ _ _)
  have hz0 : ((w.alloc (.cells c 63)).alloc (.cells VS.zero.c 63)).heap[w.heap.size + 1]? = some (.cells VS.zero.c 63 (0, 0)) := heap_alloc2_new _ _ _
  have HZ0 := Lib.hid hz0
  have hbl0 := ((Below.refl w.heap.size w).alloc (Nat.le_refl _) (.cells c 63)).alloc (by simp) (.cells VS.zero.c 63)
  have HBL0 := Lib.hid hbl0
  have hg3 := get_of hc3
  clear hone hT hbl0 hz0 hdz

  have HA : Hid (((w.alloc (.cells c 63)).alloc (.cells VS.zero.c 63)).heap[w.heap.size]? = some (.cells d 63 (0, 0))) := Lib.hid (by rw [← HT.out]; exact heap_alloc2_old _ _ _)
  go_enter Tryd.func148, Tryd.ntmps148
  go_wp2_with (first | (refine wpList_load_row rfl 63 _ rfl w.heap.size rfl 63 d (0, 0) _ HA.out Tryd.underlying63 rfl HI.out ?_) | (refine wpList_store_row rfl 63 _ _ rfl (w.heap.size + 1) d rfl rfl 63 VS.zero.c HZ0.out HI.out HSZ.out HO.out ?_))
  exact bodyPost_ret (v := .agg d) (results_cell_row rfl _ _ (w.heap.size + 1) 63 d (0, 0) _ rfl (setRow_heap _ _ _ _ _ _ HZ0.out) Tryd.underlying63 rfl HI.out) rfl ⟨rfl, below_setRow (HBL0.out) (by simp) _⟩

set_option maxRecDepth 100000 in
set_option maxHeartbeats 8000000 in
theorem vs_ready_0_1g (c d : Array Value) (sz : Int) (de av us la pu : Nat) (rd : Bool) (w : World) (hc3 : c[3]? = some (.int .u32 0)) (hdz : d.size = 21) (hone : d.all (·.oneCell') = true) (hczi : c.size = 21)
    (hT : ((c.setIfInBounds 7 (.bool true)).setIfInBounds 12 (.int .u16 0)).setIfInBounds 13 (.int .u16 0) = d)
    (hcr : c[7]? = some (.bool rd))
    (hrng : ∀ (j : Nat) v, ([.int .i64 sz, .int .u32 de, .int .u32 av, .int .u32 us, .int .u16 la, .int .u16 pu] : List Value)[j]? = some v → c[8 + j]? = some v)
    (HR : Hid (∀ W, Calls Tryd.prog 120 #[.agg #[.int .i64 sz, .int .u32 de, .int .u32 av, .int .u32 us, .int .u16 la, .int .u16 pu]] W fun e w' => e = .returned .nilIface ∧ Below W.heap.size W w')) :
    Calls Tryd.prog 148 #[.agg c, .int .u32 1] w fun e w' => e = .returned (.agg d) ∧ Below w.heap.size w w' := by
  have HT := Lib.hid hT
  have HI := Lib.hid (show (Tryd.prog.info? 63).map (·.size) = some d.size by rw [hdz]; kernel_rfl)
  have HIC := Lib.hid (show (Tryd.prog.info? 63).map (·.size) = some c.size by rw [hczi]; kernel_rfl)
  have HO := Lib.hid hone
  have HSZ : Hid (VS.zero.c.size = d.size) := Lib.hid (by rw [hdz]; rfl)
  have H0 := Lib.hid (show ((w.alloc (.cells c 63)).alloc (.cells VS.zero.c 63)).heap[w.heap.size]? = some (.cells c 63 (0, 0)) from heap_alloc2_old _ _ _)
  have hz0 : ((w.alloc (.cells c 63)).alloc (.cells VS.zero.c 63)).heap[w.heap.size + 1]? = some (.cells VS.zero.c 63 (0, 0)) := heap_alloc2_new _ _ _
  have HZ0 := Lib.hid hz0
  have hbl0 := ((Below.refl w.heap.size w).alloc (Nat.le_refl _) (.cells c 63)).alloc (by simp) (.cells VS.zero.c 63)
  have HBL0 := Lib.hid hbl0
  have hg3 := get_of hc3
  clear hone hT hbl0 hz0 hdz

  have HRG := Lib.hid (range_of_row H0.out 8 _ hrng)
  go_enter Tryd.func148, Tryd.ntmps148
  go_wp2_with (refine load_midW rfl 58 _ rfl w.heap.size 8 rfl _ _ HRG.out Tryd.underlying58 rfl (by kernel_rfl) ?_)
  refine (HR.out _).mono ?_
  rintro e w1 ⟨rfl, hb⟩
  have H1 := Lib.hid (below_cells H0.out hb)
  have HZ1 := Lib.hid (below_cells HZ0.out hb)
  have HBL1 := Lib.hid (HBL0.out.trans (hb.mono HBL0.out.size))
  clear hb
  have hf7 := frozen_of_row _ _ 7 _ _ H1.out
  have hk7 := (cell_of_row _ _ 7 _ _ _ H1.out).trans hcr
  have hf12 := frozen_of_row _ _ 12 _ _ H1.out
  have hk12 := (cell_of_row _ _ 12 _ _ _ H1.out).trans (hrng 4 _ rfl)
  have hf13 := frozen_of_row _ _ 13 _ _ H1.out
  have hk13 := (cell_of_row _ _ 13 _ _ _ H1.out).trans (hrng 5 _ rfl)
  have HD : Hid ((((w1.setCell ⟨w.heap.size, 7, none⟩ (.bool true)).setCell ⟨w.heap.size, 12, none⟩ (.int .u16 0)).setCell ⟨w.heap.size, 13, none⟩ (.int .u16 0)).heap[w.heap.size]? = some (.cells d 63 (0, 0))) := Lib.hid (by rw [heap_setCell_same _ _ _ _ _ _ (heap_setCell_same _ _ _ _ _ _ (heap_setCell_same _ _ _ _ _ _ H1.out)), HT.out])
  have HZ2 : Hid ((((w1.setCell ⟨w.heap.size, 7, none⟩ (.bool true)).setCell ⟨w.heap.size, 12, none⟩ (.int .u16 0)).setCell ⟨w.heap.size, 13, none⟩ (.int .u16 0)).heap[w.heap.size + 1]? = some (.cells VS.zero.c 63 (0, 0))) := Lib.hid (by rw [heap_setCell_other _ _ _ _ (by simp), heap_setCell_other _ _ _ _ (by simp), heap_setCell_other _ _ _ _ (by simp)]; exact HZ1.out)
  go_wp2_with (first | (refine wpList_load_row rfl 63 _ rfl w.heap.size rfl 63 d (0, 0) _ HD.out Tryd.underlying63 rfl HI.out ?_) | (refine wpList_store_row rfl 63 _ _ rfl (w.heap.size + 1) d rfl rfl 63 VS.zero.c HZ2.out HI.out HSZ.out HO.out ?_))
  exact bodyPost_ret (v := .agg d) (results_cell_row rfl _ _ (w.heap.size + 1) 63 d (0, 0) _ rfl (setRow_heap _ _ _ _ _ _ HZ2.out) Tryd.underlying63 rfl HI.out) rfl ⟨rfl, below_setRow (((HBL1.out.setCell (Nat.le_refl _) _).setCell (Nat.le_refl _) _).setCell (Nat.le_refl _) _) (by simp) _⟩

set_option maxRecDepth 100000 in
set_option maxHeartbeats 1000000 in
theorem vs_ready_0_1b (c d : Array Value) (sz : Int) (de av us la pu : Nat) (w : World) (hc3 : c[3]? = some (.int .u32 0)) (hdz : d.size = 21) (hone : d.all (·.oneCell') = true) (hczi : c.size = 21)
    (hT : True)
    (hrng : ∀ (j : Nat) v, ([.int .i64 sz, .int .u32 de, .int .u32 av, .int .u32 us, .int .u16 la, .int .u16 pu] : List Value)[j]? = some v → c[8 + j]? = some v)
    (HR : Hid (∀ W, Calls Tryd.prog 120 #[.agg #[.int .i64 sz, .int .u32 de, .int .u32 av, .int .u32 us, .int .u16 la, .int .u16 pu]] W fun e w' => e = .returned (.iface 140 (.int .i64 1)) ∧ Below W.heap.size W w'))
    (HF : Hid (∀ W, Calls Tryd.prog 30 #[.agg c] W fun e w' => e = .returned (.agg d) ∧ Below W.heap.size W w')) :
    Calls Tryd.prog 148 #[.agg c, .int .u32 1] w fun e w' => e = .returned (.agg d) ∧ Below w.heap.size w w' := by
  have HT := Lib.hid hT
  have HI := Lib.hid (show (Tryd.prog.info? 63).map (·.size) = some d.size by rw [hdz]; kernel_rfl)
  have HIC := Lib.hid (show (Tryd.prog.info? 63).map (·.size) = some c.size by rw [hczi]; kernel_rfl)
  have HO := Lib.hid hone
  have HSZ : Hid (VS.zero.c.size = d.size) := Lib.hid (by rw [hdz]; rfl)
  have H0 := Lib.hid (show ((w.alloc (.cells c 63)).alloc (.cells VS.zero.c 63)).heap[w.heap.size]? = some (.cells c 63 (0, 0)) from heap_alloc2_old _ _ _)
  have hz0 : ((w.alloc (.cells c 63)).alloc (.cells VS.zero.c 63)).heap[w.heap.size + 1]? = some (.cells VS.zero.c 63 (0, 0)) := heap_alloc2_new _ _ _
  have HZ0 := Lib.hid hz0
  have hbl0 := ((Below.refl w.heap.size w).alloc (Nat.le_refl _) (.cells c 63)).alloc (by simp) (.cells VS.zero.c 63)
  have HBL0 := Lib.hid hbl0
  have hg3 := get_of hc3
  clear hone hT hbl0 hz0 hdz

  have HRG := Lib.hid (range_of_row H0.out 8 _ hrng)
  go_enter Tryd.func148, Tryd.ntmps148
  go_wp2_with (refine load_midW rfl 58 _ rfl w.heap.size 8 rfl _ _ HRG.out Tryd.underlying58 rfl (by kernel_rfl) ?_)
  refine (HR.out _).mono ?_
  rintro e w1 ⟨rfl, hb⟩
  have H1 := Lib.hid (below_cells H0.out hb)
  have HZ1 := Lib.hid (below_cells HZ0.out hb)
  have HBL1 := Lib.hid (HBL0.out.trans (hb.mono HBL0.out.size))
  clear hb
  go_wp2_with (refine wpList_load_row rfl 63 _ rfl w.heap.size rfl 63 c (0, 0) _ H1.out Tryd.underlying63 rfl HIC.out ?_)
  refine (HF.out _).mono ?_
  rintro e w2 ⟨rfl, hb⟩
  have HZ2 := Lib.hid (below_cells HZ1.out hb)
  have HBL2 := Lib.hid (HBL1.out.trans (hb.mono HBL1.out.size))
  clear hb
  go_wp2_with (refine wpList_store_row rfl 63 _ _ rfl (w.heap.size + 1) d rfl rfl 63 VS.zero.c HZ2.out HI.out HSZ.out HO.out ?_)
  exact bodyPost_ret (v := .agg d) (results_cell_row rfl _ _ (w.heap.size + 1) 63 d (0, 0) _ rfl (setRow_heap _ _ _ _ _ _ HZ2.out) Tryd.underlying63 rfl HI.out) rfl ⟨rfl, below_setRow (HBL2.out) (by simp) _⟩

set_option maxRecDepth 100000 in
set_option maxHeartbeats 1000000 in
theorem vs_ready_1_0 (c d : Array Value) (w : World) (hc3 : c[3]? = some (.int .u32 1)) (hdz : d.size = 21) (hone : d.all (·.oneCell') = true) (hczi : c.size = 21)
    (hT : (c.setIfInBounds 14 (.bool false)) = d) :
    Calls Tryd.prog 148 #[.agg c, .int .u32 0] w fun e w' => e = .returned (.agg d) ∧ Below w.heap.size w w' := by
  have HT := Lib.hid hT
  have HI := Lib.hid (show (Tryd.prog.info? 63).map (·.size) = some d.size by rw [hdz]; kernel_rfl)
  have HIC := Lib.hid (show (Tryd.prog.info? 63).map (·.size) = some c.size by rw [hczi]; kernel_rfl)
  have HO := Lib.hid hone
  have HSZ : Hid (VS.zero.c.size = d.size) := Lib.hid (by rw [hdz]; rfl)
  have H0 := Lib.hid (show ((w.alloc (.cells c 63)).alloc (.cells VS.zero.c 63)).heap[w.heap.size]? = some (.cells c 63 (0, 0)) from heap_alloc2_old _ _ _)
  have hz0 : ((w.alloc (.cells c 63)).alloc (.cells VS.zero.c 63)).heap[w.heap.size + 1]? = some (.cells VS.zero.c 63 (0, 0)) := heap_alloc2_new _ _ _
  have HZ0 := Lib.hid hz0
  have hbl0 := ((Below.refl w.heap.size w).alloc (Nat.le_refl _) (.cells c 63)).alloc (by simp) (.cells VS.zero.c 63)
  have HBL0 := Lib.hid hbl0
  have hg3 := get_of hc3
  clear hone hT hbl0 hz0 hdz

  have HA : Hid (((w.alloc (.cells (c.setIfInBounds 14 (.bool false)) 63)).alloc (.cells VS.zero.c 63)).heap[w.heap.size]? = some (.cells d 63 (0, 0))) := Lib.hid (by rw [HT.out]; exact heap_alloc2_old _ _ _)
  have HB : Hid (((w.alloc (.cells (c.setIfInBounds 14 (.bool false)) 63)).alloc (.cells VS.zero.c 63)).heap[w.heap.size + 1]? = some (.cells VS.zero.c 63 (0, 0))) := Lib.hid (heap_alloc2_new _ _ _)
  have hbl := ((Below.refl w.heap.size w).alloc (Nat.le_refl _) (.cells (c.setIfInBounds 14 (.bool false)) 63)).alloc (by simp) (.cells VS.zero.c 63)
  go_enter Tryd.func148, Tryd.ntmps148
  go_wp2_with (first | (refine wpList_load_row rfl 63 _ rfl w.heap.size rfl 63 d (0, 0) _ HA.out Tryd.underlying63 rfl HI.out ?_) | (refine wpList_store_row rfl 63 _ _ rfl (w.heap.size + 1) d rfl rfl 63 VS.zero.c HB.out HI.out HSZ.out HO.out ?_))
  exact bodyPost_ret (v := .agg d) (results_cell_row rfl _ _ (w.heap.size + 1) 63 d (0, 0) _ rfl (setRow_heap _ _ _ _ _ _ HB.out) Tryd.underlying63 rfl HI.out) rfl ⟨rfl, below_setRow (hbl) (by simp) _⟩

set_option maxRecDepth 100000 in
set_option maxHeartbeats 1000000 in
theorem vs_ready_1_e (c d : Array Value) (v : Nat) (w : World) (hc3 : c[3]? = some (.int .u32 1)) (hdz : d.size = 21) (hone : d.all (·.oneCell') = true) (hczi : c.size = 21)
    (hT : c = d)
    (b0 : ((v : Int) == 0) = false)
    (b1 : ((v : Int) == 1) = false) :
    Calls Tryd.prog 148 #[.agg c, .int .u32 v] w fun e w' => e = .returned (.agg d) ∧ Below w.heap.size w w' := by
  have HT := Lib.hid hT
  have HI := Lib.hid (show (Tryd.prog.info? 63).map (·.size) = some d.size by rw [hdz]; kernel_rfl)
  have HIC := Lib.hid (show (Tryd.prog.info? 63).map (·.size) = some c.size by rw [hczi]; kernel_rfl)
  have HO := Lib.hid hone
  have HSZ : Hid (VS.zero.c.size = d.size) := Lib.hid (by rw [hdz]; rfl)
  have H0 := Lib.hid (show ((w.alloc (.cells c 63)).alloc (.cells VS.zero.c 63)).heap[w.heap.size]? = some (.cells c 63 (0, 0)) from heap_alloc2_old _ _ _)
  have hz0 : ((w.alloc (.cells c 63)).alloc (.cells VS.zero.c 63)).heap[w.heap.size + 1]? = some (.cells VS.zero.c 63 (0, 0)) := heap_alloc2_new _ _ _
  have HZ0 := Lib.hid hz0
  have hbl0 := ((Below.refl w.heap.size w).alloc (Nat.le_refl _) (.cells c 63)).alloc (by simp) (.cells VS.zero.c 63)
  have HBL0 := Lib.hid hbl0
  have hg3 := get_of hc3
  clear hone hT hbl0 hz0 hdz

  have HA : Hid (((w.alloc (.cells c 63)).alloc (.cells VS.zero.c 63)).heap[w.heap.size]? = some (.cells d 63 (0, 0))) := Lib.hid (by rw [← HT.out]; exact heap_alloc2_old _ _ _)
  go_enter Tryd.func148, Tryd.ntmps148
  go_wp2_with (first | (refine wpList_load_row rfl 63 _ rfl w.heap.size rfl 63 d (0, 0) _ HA.out Tryd.underlying63 rfl HI.out ?_) | (refine wpList_store_row rfl 63 _ _ rfl (w.heap.size + 1) d rfl rfl 63 VS.zero.c HZ0.out HI.out HSZ.out HO.out ?_))
  exact bodyPost_ret (v := .agg d) (results_cell_row rfl _ _ (w.heap.size + 1) 63 d (0, 0) _ rfl (setRow_heap _ _ _ _ _ _ HZ0.out) Tryd.underlying63 rfl HI.out) rfl ⟨rfl, below_setRow (HBL0.out) (by simp) _⟩

set_option maxRecDepth 100000 in
set_option maxHeartbeats 8000000 in
theorem vs_ready_1_1g (c d : Array Value) (sz : Int) (de av us la pu : Nat) (rd : Bool) (w : World) (hc3 : c[3]? = some (.int .u32 1)) (hdz : d.size = 21) (hone : d.all (·.oneCell') = true) (hczi : c.size = 21)
    (hT : ((c.setIfInBounds 14 (.bool true)).setIfInBounds 19 (.int .u16 0)).setIfInBounds 20 (.int .u16 0) = d)
    (hcr : c[14]? = some (.bool rd))
    (hrng : ∀ (j : Nat) v, ([.int .i64 sz, .int .u32 de, .int .u32 av, .int .u32 us, .int .u16 la, .int .u16 pu] : List Value)[j]? = some v → c[15 + j]? = some v)
    (HR : Hid (∀ W, Calls Tryd.prog 120 #[.agg #[.int .i64 sz, .int .u32 de, .int .u32 av, .int .u32 us, .int .u16 la, .int .u16 pu]] W fun e w' => e = .returned .nilIface ∧ Below W.heap.size W w')) :
    Calls Tryd.prog 148 #[.agg c, .int .u32 1] w fun e w' => e = .returned (.agg d) ∧ Below w.heap.size w w' := by
  have HT := Lib.hid hT
  have HI := Lib.hid (show (Tryd.prog.info? 63).map (·.size) = some d.size by rw [hdz]; kernel_rfl)
  have HIC := Lib.hid (show (Tryd.prog.info? 63).map (·.size) = some c.size by rw [hczi]; kernel_rfl)
  have HO := Lib.hid hone
  have HSZ : Hid (VS.zero.c.size = d.size) := Lib.hid (by rw [hdz]; rfl)
  have H0 := Lib.hid (show ((w.alloc (.cells c 63)).alloc (.cells VS.zero.c 63)).heap[w.heap.size]? = some (.cells c 63 (0, 0)) from heap_alloc2_old _ _ _)
  have hz0 : ((w.alloc (.cells c 63)).alloc (.cells VS.zero.c 63)).heap[w.heap.size + 1]? = some (.cells VS.zero.c 63 (0, 0)) := heap_alloc2_new _ _ _
  have HZ0 := Lib.hid hz0
  have hbl0 := ((Below.refl w.heap.size w).alloc (Nat.le_refl _) (.cells c 63)).alloc (by simp) (.cells VS.zero.c 63)
  have HBL0 := Lib.hid hbl0
  have hg3 := get_of hc3
  clear hone hT hbl0 hz0 hdz

  have HRG := Lib.hid (range_of_row H0.out 15 _ hrng)
  go_enter Tryd.func148, Tryd.ntmps148
  go_wp2_with (refine load_midW rfl 58 _ rfl w.heap.size 15 rfl _ _ HRG.out Tryd.underlying58 rfl (by kernel_rfl) ?_)
  refine (HR.out _).mono ?_
  rintro e w1 ⟨rfl, hb⟩
  have H1 := Lib.hid (below_cells H0.out hb)
  have HZ1 := Lib.hid (below_cells HZ0.out hb)
  have HBL1 := Lib.hid (HBL0.out.trans (hb.mono HBL0.out.size))
  clear hb
  have hf14 := frozen_of_row _ _ 14 _ _ H1.out
  have hk14 := (cell_of_row _ _ 14 _ _ _ H1.out).trans hcr
  have hf19 := frozen_of_row _ _ 19 _ _ H1.out
  have hk19 := (cell_of_row _ _ 19 _ _ _ H1.out).trans (hrng 4 _ rfl)
  have hf20 := frozen_of_row _ _ 20 _ _ H1.out
  have hk20 := (cell_of_row _ _ 20 _ _ _ H1.out).trans (hrng 5 _ rfl)
  have HD : Hid ((((w1.setCell ⟨w.heap.size, 14, none⟩ (.bool true)).setCell ⟨w.heap.size, 19, none⟩ (.int .u16 0)).setCell ⟨w.heap.size, 20, none⟩ (.int .u16 0)).heap[w.heap.size]? = some (.cells d 63 (0, 0))) := Lib.hid (by rw [heap_setCell_same _ _ _ _ _ _ (heap_setCell_same _ _ _ _ _ _ (heap_setCell_same _ _ _ _ _ _ H1.out)), HT.out])
  have HZ2 : Hid ((((w1.setCell ⟨w.heap.size, 14, none⟩ (.bool true)).setCell ⟨w.heap.size, 19, none⟩ (.int .u16 0)).setCell ⟨w.heap.size, 20, none⟩ (.int .u16 0)).heap[w.heap.size + 1]? = some (.cells VS.zero.c 63 (0, 0))) := Lib.hid (by rw [heap_setCell_other _ _ _ _ (by simp), heap_setCell_other _ _ _ _ (by simp), heap_setCell_other _ _ _ _ (by simp)]; exact HZ1.out)
  go_wp2_with (first | (refine wpList_load_row rfl 63 _ rfl w.heap.size rfl 63 d (0, 0) _ HD.out Tryd.underlying63 rfl HI.out ?_) | (refine wpList_store_row rfl 63 _ _ rfl (w.heap.size + 1) d rfl rfl 63 VS.zero.c HZ2.out HI.out HSZ.out HO.out ?_))
  exact bodyPost_ret (v := .agg d) (results_cell_row rfl _ _ (w.heap.size + 1) 63 d (0, 0) _ rfl (setRow_heap _ _ _ _ _ _ HZ2.out) Tryd.underlying63 rfl HI.out) rfl ⟨rfl, below_setRow (((HBL1.out.setCell (Nat.le_refl _) _).setCell (Nat.le_refl _) _).setCell (Nat.le_refl _) _) (by simp) _⟩

set_option maxRecDepth 100000 in
set_option maxHeartbeats 1000000 in
theorem vs_ready_1_1b (c d : Array Value) (sz : Int) (de av us la pu : Nat) (w : World) (hc3 : c[3]? = some (.int .u32 1)) (hdz : d.size = 21) (hone : d.all (·.oneCell') = true) (hczi : c.size = 21)
    (hT : True)
    (hrng : ∀ (j : Nat) v, ([.int .i64 sz, .int .u32 de, .int .u32 av, .int .u32 us, .int .u16 la, .int .u16 pu] : List Value)[j]? = some v → c[15 + j]? = some v)
    (HR : Hid (∀ W, Calls Tryd.prog 120 #[.agg #[.int .i64 sz, .int .u32 de, .int .u32 av, .int .u32 us, .int .u16 la, .int .u16 pu]] W fun e w' => e = .returned (.iface 140 (.int .i64 1)) ∧ Below W.heap.size W w'))
    (HF : Hid (∀ W, Calls Tryd.prog 30 #[.agg c] W fun e w' => e = .returned (.agg d) ∧ Below W.heap.size W w')) :
    Calls Tryd.prog 148 #[.agg c, .int .u32 1] w fun e w' => e = .returned (.agg d) ∧ Below w.heap.size w w' := by
  have HT := Lib.hid hT
  have HI := Lib.hid (show (Tryd.prog.info? 63).map (·.size) = some d.size by rw [hdz]; kernel_rfl)
  have HIC := Lib.hid (show (Tryd.prog.info? 63).map (·.size) = some c.size by rw [hczi]; kernel_rfl)
  have HO := Lib.hid hone
  have HSZ : Hid (VS.zero.c.size = d.size) := Lib.hid (by rw [hdz]; rfl)
  have H0 := Lib.hid (show ((w.alloc (.cells c 63)).alloc (.cells VS.zero.c 63)).heap[w.heap.size]? = some (.cells c 63 (0, 0)) from heap_alloc2_old _ _ _)
  have hz0 : ((w.alloc (.cells c 63)).alloc (.cells VS.zero.c 63)).heap[w.heap.size + 1]? = some (.cells VS.zero.c 63 (0, 0)) := heap_alloc2_new _ _ _
  have HZ0 := Lib.hid hz0
  have hbl0 := ((Below.refl w.heap.size w).alloc (Nat.le_refl _) (.cells c 63)).alloc (by simp) (.cells VS.zero.c 63)
  have HBL0 := Lib.hid hbl0
  have hg3 := get_of hc3
  clear hone hT hbl0 hz0 hdz

  have HRG := Lib.hid (range_of_row H0.out 15 _ hrng)
  go_enter Tryd.func148, Tryd.ntmps148
  go_wp2_with (refine load_midW rfl 58 _ rfl w.heap.size 15 rfl _ _ HRG.out Tryd.underlying58 rfl (by kernel_rfl) ?_)
  refine (HR.out _).mono ?_
  rintro e w1 ⟨rfl, hb⟩
  have H1 := Lib.hid (below_cells H0.out hb)
  have HZ1 := Lib.hid (below_cells HZ0.out hb)
  have HBL1 := Lib.hid (HBL0.out.trans (hb.mono HBL0.out.size))
  clear hb
  go_wp2_with (refine wpList_load_row rfl 63 _ rfl w.heap.size rfl 63 c (0, 0) _ H1.out Tryd.underlying63 rfl HIC.out ?_)
  refine (HF.out _).mono ?_
  rintro e w2 ⟨rfl, hb⟩
  have HZ2 := Lib.hid (below_cells HZ1.out hb)
  have HBL2 := Lib.hid (HBL1.out.trans (hb.mono HBL1.out.size))
  clear hb
  go_wp2_with (refine wpList_store_row rfl 63 _ _ rfl (w.heap.size + 1) d rfl rfl 63 VS.zero.c HZ2.out HI.out HSZ.out HO.out ?_)
  exact bodyPost_ret (v := .agg d) (results_cell_row rfl _ _ (w.heap.size + 1) 63 d (0, 0) _ rfl (setRow_heap _ _ _ _ _ _ HZ2.out) Tryd.underlying63 rfl HI.out) rfl ⟨rfl, below_setRow (HBL2.out) (by simp) _⟩

end Go.Proofs.YtcbjlpkkebcmjaaDoor
