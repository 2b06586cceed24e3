/-
virtio.Write, walked: leaf by leaf.
No condition.
-/
import Derived.Test.YtcbjlpkkebcmjaaDoorVioStat
import Derived.OwnWalk
namespace Go.Proofs.YtcbjlpkkebcmjaaDoor
open Go.RowKit

theorem setRow_other {w : World} {b b' : Nat} {cs : Array Value} (h : b' ≠ b) : (w.setRow b cs).heap[b']? = w.heap[b']? := by
  simp only [World.setRow, Array.getElem?_modify]
  rw [if_neg (fun e => h e.symm)]

set_option maxRecDepth 100000 in
set_option maxHeartbeats 2000000 in
theorem vs_write_20 (c d : Array Value) (v x : Nat) (w : World) (hdz : d.size = 21) (hone : d.all (·.oneCell') = true) (hczi : c.size = 21)
    (HBAD : Hid (∀ W, Calls Tryd.prog 70 #[.agg c, .int .u32 20] W fun e w' => e = .returned .nilIface ∧ Below W.heap.size W w'))
    (hT : c.setIfInBounds 1 (.int .u32 v) = d)
    (hc1 : c[1]? = some (.int .u32 x)) :
    Calls Tryd.prog 77 #[.agg c, .int .u32 20, .int .u32 v] w fun e w' => e = .returned (.tuple #[.agg d, .int .i64 (-1), .nilIface]) ∧ Below w.heap.size w w' := by
  have HT := Lib.hid hT
  have HI := Lib.hid (show (Tryd.prog.info? 63).map (·.size) = some d.size by rw [hdz]; kernel_rfl)
  have HIC := Lib.hid (show (Tryd.prog.info? 63).map (·.size) = some c.size by rw [hczi]; kernel_rfl)
  have HO := Lib.hid hone
  have HSZ : Hid (VS.zero.c.size = d.size) := Lib.hid (by rw [hdz]; rfl)
  have HSC : Hid (c.size = d.size) := Lib.hid (by rw [hdz, hczi])
  have H0 := Lib.hid (show ((w.alloc (.cells c 63)).alloc (.cells VS.zero.c 63)).heap[w.heap.size]? = some (.cells c 63 (0, 0)) from heap_alloc2_old _ _ _)
  have HZ0 := Lib.hid (show ((w.alloc (.cells c 63)).alloc (.cells VS.zero.c 63)).heap[w.heap.size + 1]? = some (.cells VS.zero.c 63 (0, 0)) from heap_alloc2_new _ _ _)
  have HBL0 := Lib.hid (((Below.refl w.heap.size w).alloc (Nat.le_refl _) (.cells c 63)).alloc (by simp) (.cells VS.zero.c 63))
  clear hone hT hdz hczi
  go_enter Tryd.func77, Tryd.ntmps77
  go_wp2_with (refine wpList_load_row rfl 63 _ rfl w.heap.size rfl 63 c (0, 0) _ H0.out Tryd.underlying63 rfl HIC.out ?_)
  refine (HBAD.out _).mono ?_
  rintro e w1 ⟨rfl, hb⟩
  have H1 := Lib.hid (below_cells H0.out hb)
  have HZ1 := Lib.hid (below_cells HZ0.out hb)
  have HBL1 := Lib.hid (HBL0.out.trans (hb.mono HBL0.out.size))
  clear hb
  have hf1 := frozen_of_row _ _ 1 _ _ H1.out
  have hk1 := (cell_of_row _ _ 1 _ _ _ H1.out).trans hc1
  have A1 : (w1.setCell ⟨w.heap.size, 1, none⟩ (.int .u32 v)).heap[w.heap.size]? = some (.cells (c.setIfInBounds 1 (.int .u32 v)) 63 (0, 0)) := heap_setCell_same _ _ _ _ _ _ H1.out
  rw [HT.out] at A1
  have HD := Lib.hid A1
  have HZ2 := Lib.hid (show (w1.setCell ⟨w.heap.size, 1, none⟩ (.int .u32 v)).heap[w.heap.size + 1]? = some (.cells VS.zero.c 63 (0, 0)) from (heap_setCell_other _ _ _ _ (by simp)).trans HZ1.out)
  clear A1
  go_wp2_with (first | (refine wpList_load_row rfl 63 _ rfl w.heap.size rfl 63 d (0, 0) _ HD.out Tryd.underlying63 rfl HI.out ?_) | (refine wpList_store_row rfl 63 _ _ rfl (w.heap.size + 1) d rfl rfl 63 VS.zero.c HZ2.out HI.out HSZ.out HO.out ?_))
  exact bodyPost_ret (v := .tuple #[.agg d, .int .i64 (-1), .nilIface]) (results_cell_tmp2 Tryd.results77 _ _ (w.heap.size + 1) 63 d (0, 0) _ rfl (setRow_heap _ _ _ _ _ _ HZ2.out) Tryd.underlying63 rfl HI.out) rfl ⟨rfl, below_setRow (HBL1.out.setCell (Nat.le_refl _) _) (by simp) _⟩

set_option maxRecDepth 100000 in
set_option maxHeartbeats 2000000 in
theorem vs_write_36 (c d : Array Value) (v x : Nat) (w : World) (hdz : d.size = 21) (hone : d.all (·.oneCell') = true) (hczi : c.size = 21)
    (HBAD : Hid (∀ W, Calls Tryd.prog 70 #[.agg c, .int .u32 36] W fun e w' => e = .returned .nilIface ∧ Below W.heap.size W w'))
    (hT : c.setIfInBounds 2 (.int .u32 v) = d)
    (hc2 : c[2]? = some (.int .u32 x)) :
    Calls Tryd.prog 77 #[.agg c, .int .u32 36, .int .u32 v] w fun e w' => e = .returned (.tuple #[.agg d, .int .i64 (-1), .nilIface]) ∧ Below w.heap.size w w' := by
  have HT := Lib.hid hT
  have HI := Lib.hid (show (Tryd.prog.info? 63).map (·.size) = some d.size by rw [hdz]; kernel_rfl)
  have HIC := Lib.hid (show (Tryd.prog.info? 63).map (·.size) = some c.size by rw [hczi]; kernel_rfl)
  have HO := Lib.hid hone
  have HSZ : Hid (VS.zero.c.size = d.size) := Lib.hid (by rw [hdz]; rfl)
  have HSC : Hid (c.size = d.size) := Lib.hid (by rw [hdz, hczi])
  have H0 := Lib.hid (show ((w.alloc (.cells c 63)).alloc (.cells VS.zero.c 63)).heap[w.heap.size]? = some (.cells c 63 (0, 0)) from heap_alloc2_old _ _ _)
  have HZ0 := Lib.hid (show ((w.alloc (.cells c 63)).alloc (.cells VS.zero.c 63)).heap[w.heap.size + 1]? = some (.cells VS.zero.c 63 (0, 0)) from heap_alloc2_new _ _ _)
  have HBL0 := Lib.hid (((Below.refl w.heap.size w).alloc (Nat.le_refl _) (.cells c 63)).alloc (by simp) (.cells VS.zero.c 63))
  clear hone hT hdz hczi
  go_enter Tryd.func77, Tryd.ntmps77
  go_wp2_with (refine wpList_load_row rfl 63 _ rfl w.heap.size rfl 63 c (0, 0) _ H0.out Tryd.underlying63 rfl HIC.out ?_)
  refine (HBAD.out _).mono ?_
  rintro e w1 ⟨rfl, hb⟩
  have H1 := Lib.hid (below_cells H0.out hb)
  have HZ1 := Lib.hid (below_cells HZ0.out hb)
  have HBL1 := Lib.hid (HBL0.out.trans (hb.mono HBL0.out.size))
  clear hb
  have hf2 := frozen_of_row _ _ 2 _ _ H1.out
  have hk2 := (cell_of_row _ _ 2 _ _ _ H1.out).trans hc2
  have A1 : (w1.setCell ⟨w.heap.size, 2, none⟩ (.int .u32 v)).heap[w.heap.size]? = some (.cells (c.setIfInBounds 2 (.int .u32 v)) 63 (0, 0)) := heap_setCell_same _ _ _ _ _ _ H1.out
  rw [HT.out] at A1
  have HD := Lib.hid A1
  have HZ2 := Lib.hid (show (w1.setCell ⟨w.heap.size, 2, none⟩ (.int .u32 v)).heap[w.heap.size + 1]? = some (.cells VS.zero.c 63 (0, 0)) from (heap_setCell_other _ _ _ _ (by simp)).trans HZ1.out)
  clear A1
  go_wp2_with (first | (refine wpList_load_row rfl 63 _ rfl w.heap.size rfl 63 d (0, 0) _ HD.out Tryd.underlying63 rfl HI.out ?_) | (refine wpList_store_row rfl 63 _ _ rfl (w.heap.size + 1) d rfl rfl 63 VS.zero.c HZ2.out HI.out HSZ.out HO.out ?_))
  exact bodyPost_ret (v := .tuple #[.agg d, .int .i64 (-1), .nilIface]) (results_cell_tmp2 Tryd.results77 _ _ (w.heap.size + 1) 63 d (0, 0) _ rfl (setRow_heap _ _ _ _ _ _ HZ2.out) Tryd.underlying63 rfl HI.out) rfl ⟨rfl, below_setRow (HBL1.out.setCell (Nat.le_refl _) _) (by simp) _⟩

set_option maxRecDepth 100000 in
set_option maxHeartbeats 2000000 in
theorem vs_write_48 (c d : Array Value) (v x : Nat) (w : World) (hdz : d.size = 21) (hone : d.all (·.oneCell') = true) (hczi : c.size = 21)
    (HBAD : Hid (∀ W, Calls Tryd.prog 70 #[.agg c, .int .u32 48] W fun e w' => e = .returned .nilIface ∧ Below W.heap.size W w'))
    (hT : c.setIfInBounds 3 (.int .u32 v) = d)
    (hc3 : c[3]? = some (.int .u32 x)) :
    Calls Tryd.prog 77 #[.agg c, .int .u32 48, .int .u32 v] w fun e w' => e = .returned (.tuple #[.agg d, .int .i64 (-1), .nilIface]) ∧ Below w.heap.size w w' := by
  have HT := Lib.hid hT
  have HI := Lib.hid (show (Tryd.prog.info? 63).map (·.size) = some d.size by rw [hdz]; kernel_rfl)
  have HIC := Lib.hid (show (Tryd.prog.info? 63).map (·.size) = some c.size by rw [hczi]; kernel_rfl)
  have HO := Lib.hid hone
  have HSZ : Hid (VS.zero.c.size = d.size) := Lib.hid (by rw [hdz]; rfl)
  have HSC : Hid (c.size = d.size) := Lib.hid (by rw [hdz, hczi])
  have H0 := Lib.hid (show ((w.alloc (.cells c 63)).alloc (.cells VS.zero.c 63)).heap[w.heap.size]? = some (.cells c 63 (0, 0)) from heap_alloc2_old _ _ _)
  have HZ0 := Lib.hid (show ((w.alloc (.cells c 63)).alloc (.cells VS.zero.c 63)).heap[w.heap.size + 1]? = some (.cells VS.zero.c 63 (0, 0)) from heap_alloc2_new _ _ _)
  have HBL0 := Lib.hid (((Below.refl w.heap.size w).alloc (Nat.le_refl _) (.cells c 63)).alloc (by simp) (.cells VS.zero.c 63))
  clear hone hT hdz hczi
  go_enter Tryd.func77, Tryd.ntmps77
  go_wp2_with (refine wpList_load_row rfl 63 _ rfl w.heap.size rfl 63 c (0, 0) _ H0.out Tryd.underlying63 rfl HIC.out ?_)
  refine (HBAD.out _).mono ?_
  rintro e w1 ⟨rfl, hb⟩
  have H1 := Lib.hid (below_cells H0.out hb)
  have HZ1 := Lib.hid (below_cells HZ0.out hb)
  have HBL1 := Lib.hid (HBL0.out.trans (hb.mono HBL0.out.size))
  clear hb
  have hf3 := frozen_of_row _ _ 3 _ _ H1.out
  have hk3 := (cell_of_row _ _ 3 _ _ _ H1.out).trans hc3
  have A1 : (w1.setCell ⟨w.heap.size, 3, none⟩ (.int .u32 v)).heap[w.heap.size]? = some (.cells (c.setIfInBounds 3 (.int .u32 v)) 63 (0, 0)) := heap_setCell_same _ _ _ _ _ _ H1.out
  rw [HT.out] at A1
  have HD := Lib.hid A1
  have HZ2 := Lib.hid (show (w1.setCell ⟨w.heap.size, 3, none⟩ (.int .u32 v)).heap[w.heap.size + 1]? = some (.cells VS.zero.c 63 (0, 0)) from (heap_setCell_other _ _ _ _ (by simp)).trans HZ1.out)
  clear A1
  go_wp2_with (first | (refine wpList_load_row rfl 63 _ rfl w.heap.size rfl 63 d (0, 0) _ HD.out Tryd.underlying63 rfl HI.out ?_) | (refine wpList_store_row rfl 63 _ _ rfl (w.heap.size + 1) d rfl rfl 63 VS.zero.c HZ2.out HI.out HSZ.out HO.out ?_))
  exact bodyPost_ret (v := .tuple #[.agg d, .int .i64 (-1), .nilIface]) (results_cell_tmp2 Tryd.results77 _ _ (w.heap.size + 1) 63 d (0, 0) _ rfl (setRow_heap _ _ _ _ _ _ HZ2.out) Tryd.underlying63 rfl HI.out) rfl ⟨rfl, below_setRow (HBL1.out.setCell (Nat.le_refl _) _) (by simp) _⟩

set_option maxRecDepth 100000 in
set_option maxHeartbeats 2000000 in
theorem vs_write_100 (c d : Array Value) (v x y : Nat) (w : World) (hdz : d.size = 21) (hone : d.all (·.oneCell') = true) (hczi : c.size = 21)
    (HBAD : Hid (∀ W, Calls Tryd.prog 70 #[.agg c, .int .u32 100] W fun e w' => e = .returned .nilIface ∧ Below W.heap.size W w'))
    (hT : c.setIfInBounds 4 (.int .u32 y) = d)
    (hc4 : c[4]? = some (.int .u32 x))
    (hb1 : bits BinOp.andNot IntKind.u32 (x : Int) (v : Int) = (y : Int)) :
    Calls Tryd.prog 77 #[.agg c, .int .u32 100, .int .u32 v] w fun e w' => e = .returned (.tuple #[.agg d, .int .i64 (-1), .nilIface]) ∧ Below w.heap.size w w' := by
  have HT := Lib.hid hT
  have HI := Lib.hid (show (Tryd.prog.info? 63).map (·.size) = some d.size by rw [hdz]; kernel_rfl)
  have HIC := Lib.hid (show (Tryd.prog.info? 63).map (·.size) = some c.size by rw [hczi]; kernel_rfl)
  have HO := Lib.hid hone
  have HSZ : Hid (VS.zero.c.size = d.size) := Lib.hid (by rw [hdz]; rfl)
  have HSC : Hid (c.size = d.size) := Lib.hid (by rw [hdz, hczi])
  have H0 := Lib.hid (show ((w.alloc (.cells c 63)).alloc (.cells VS.zero.c 63)).heap[w.heap.size]? = some (.cells c 63 (0, 0)) from heap_alloc2_old _ _ _)
  have HZ0 := Lib.hid (show ((w.alloc (.cells c 63)).alloc (.cells VS.zero.c 63)).heap[w.heap.size + 1]? = some (.cells VS.zero.c 63 (0, 0)) from heap_alloc2_new _ _ _)
  have HBL0 := Lib.hid (((Below.refl w.heap.size w).alloc (Nat.le_refl _) (.cells c 63)).alloc (by simp) (.cells VS.zero.c 63))
  clear hone hT hdz hczi
  go_enter Tryd.func77, Tryd.ntmps77
  go_wp2_with (refine wpList_load_row rfl 63 _ rfl w.heap.size rfl 63 c (0, 0) _ H0.out Tryd.underlying63 rfl HIC.out ?_)
  refine (HBAD.out _).mono ?_
  rintro e w1 ⟨rfl, hb⟩
  have H1 := Lib.hid (below_cells H0.out hb)
  have HZ1 := Lib.hid (below_cells HZ0.out hb)
  have HBL1 := Lib.hid (HBL0.out.trans (hb.mono HBL0.out.size))
  clear hb
  have hf4 := frozen_of_row _ _ 4 _ _ H1.out
  have hk4 := (cell_of_row _ _ 4 _ _ _ H1.out).trans hc4
  have A1 : (w1.setCell ⟨w.heap.size, 4, none⟩ (.int .u32 y)).heap[w.heap.size]? = some (.cells (c.setIfInBounds 4 (.int .u32 y)) 63 (0, 0)) := heap_setCell_same _ _ _ _ _ _ H1.out
  rw [HT.out] at A1
  have HD := Lib.hid A1
  have HZ2 := Lib.hid (show (w1.setCell ⟨w.heap.size, 4, none⟩ (.int .u32 y)).heap[w.heap.size + 1]? = some (.cells VS.zero.c 63 (0, 0)) from (heap_setCell_other _ _ _ _ (by simp)).trans HZ1.out)
  clear A1
  go_wp2_with (first | (refine wpList_load_row rfl 63 _ rfl w.heap.size rfl 63 d (0, 0) _ HD.out Tryd.underlying63 rfl HI.out ?_) | (refine wpList_store_row rfl 63 _ _ rfl (w.heap.size + 1) d rfl rfl 63 VS.zero.c HZ2.out HI.out HSZ.out HO.out ?_))
  exact bodyPost_ret (v := .tuple #[.agg d, .int .i64 (-1), .nilIface]) (results_cell_tmp2 Tryd.results77 _ _ (w.heap.size + 1) 63 d (0, 0) _ rfl (setRow_heap _ _ _ _ _ _ HZ2.out) Tryd.underlying63 rfl HI.out) rfl ⟨rfl, below_setRow (HBL1.out.setCell (Nat.le_refl _) _) (by simp) _⟩

set_option maxRecDepth 100000 in
set_option maxHeartbeats 2000000 in
theorem vs_write_32a (c d : Array Value) (v st y : Nat) (w : World) (hdz : d.size = 21) (hone : d.all (·.oneCell') = true) (hczi : c.size = 21)
    (HBAD : Hid (∀ W, Calls Tryd.prog 70 #[.agg c, .int .u32 32] W fun e w' => e = .returned .nilIface ∧ Below W.heap.size W w'))
    (hT : c = d)
    (hc0 : c[0]? = some (.int .u32 st))
    (hb1 : bits BinOp.and IntKind.u32 (st : Int) 8 = (y : Int))
    (hy : ((y : Int) == 0) = false) :
    Calls Tryd.prog 77 #[.agg c, .int .u32 32, .int .u32 v] w fun e w' => e = .returned (.tuple #[.agg d, .int .i64 (-1), .nilIface]) ∧ Below w.heap.size w w' := by
  have HT := Lib.hid hT
  have HI := Lib.hid (show (Tryd.prog.info? 63).map (·.size) = some d.size by rw [hdz]; kernel_rfl)
  have HIC := Lib.hid (show (Tryd.prog.info? 63).map (·.size) = some c.size by rw [hczi]; kernel_rfl)
  have HO := Lib.hid hone
  have HSZ : Hid (VS.zero.c.size = d.size) := Lib.hid (by rw [hdz]; rfl)
  have HSC : Hid (c.size = d.size) := Lib.hid (by rw [hdz, hczi])
  have H0 := Lib.hid (show ((w.alloc (.cells c 63)).alloc (.cells VS.zero.c 63)).heap[w.heap.size]? = some (.cells c 63 (0, 0)) from heap_alloc2_old _ _ _)
  have HZ0 := Lib.hid (show ((w.alloc (.cells c 63)).alloc (.cells VS.zero.c 63)).heap[w.heap.size + 1]? = some (.cells VS.zero.c 63 (0, 0)) from heap_alloc2_new _ _ _)
  have HBL0 := Lib.hid (((Below.refl w.heap.size w).alloc (Nat.le_refl _) (.cells c 63)).alloc (by simp) (.cells VS.zero.c 63))
  clear hone hT hdz hczi
  go_enter Tryd.func77, Tryd.ntmps77
  go_wp2_with (refine wpList_load_row rfl 63 _ rfl w.heap.size rfl 63 c (0, 0) _ H0.out Tryd.underlying63 rfl HIC.out ?_)
  refine (HBAD.out _).mono ?_
  rintro e w1 ⟨rfl, hb⟩
  have H1 := Lib.hid (below_cells H0.out hb)
  have HZ1 := Lib.hid (below_cells HZ0.out hb)
  have HBL1 := Lib.hid (HBL0.out.trans (hb.mono HBL0.out.size))
  clear hb
  have HD := Lib.hid (show w1.heap[w.heap.size]? = some (.cells d 63 (0, 0)) by rw [← HT.out]; exact H1.out)
  have hf0 := frozen_of_row _ _ 0 _ _ H1.out
  have hk0 := (cell_of_row _ _ 0 _ _ _ H1.out).trans hc0
  go_wp2_with (first | go_skip | (refine wpList_load_row rfl 63 _ rfl w.heap.size rfl 63 d (0, 0) _ HD.out Tryd.underlying63 rfl HI.out ?_) | (refine wpList_store_row rfl 63 _ _ rfl (w.heap.size + 1) d rfl rfl 63 VS.zero.c HZ1.out HI.out HSZ.out HO.out ?_))
  exact bodyPost_ret (v := .tuple #[.agg d, .int .i64 (-1), .nilIface]) (results_cell_tmp2 Tryd.results77 _ _ (w.heap.size + 1) 63 d (0, 0) _ rfl (setRow_heap _ _ _ _ _ _ HZ1.out) Tryd.underlying63 rfl HI.out) rfl ⟨rfl, below_setRow (HBL1.out) (by simp) _⟩

set_option maxRecDepth 100000 in
set_option maxHeartbeats 2000000 in
theorem vs_write_32b (c d : Array Value) (v st y ds : Nat) (w : World) (hdz : d.size = 21) (hone : d.all (·.oneCell') = true) (hczi : c.size = 21)
    (HBAD : Hid (∀ W, Calls Tryd.prog 70 #[.agg c, .int .u32 32] W fun e w' => e = .returned .nilIface ∧ Below W.heap.size W w'))
    (hT : c = d)
    (hc0 : c[0]? = some (.int .u32 st))
    (hc2 : c[2]? = some (.int .u32 ds))
    (hb1 : bits BinOp.and IntKind.u32 (st : Int) 8 = (y : Int))
    (hy : ((y : Int) == 0) = true)
    (hds : ¬ (ds : Int) < 2) :
    Calls Tryd.prog 77 #[.agg c, .int .u32 32, .int .u32 v] w fun e w' => e = .returned (.tuple #[.agg d, .int .i64 (-1), .nilIface]) ∧ Below w.heap.size w w' := by
  have HT := Lib.hid hT
  have HI := Lib.hid (show (Tryd.prog.info? 63).map (·.size) = some d.size by rw [hdz]; kernel_rfl)
  have HIC := Lib.hid (show (Tryd.prog.info? 63).map (·.size) = some c.size by rw [hczi]; kernel_rfl)
  have HO := Lib.hid hone
  have HSZ : Hid (VS.zero.c.size = d.size) := Lib.hid (by rw [hdz]; rfl)
  have HSC : Hid (c.size = d.size) := Lib.hid (by rw [hdz, hczi])
  have H0 := Lib.hid (show ((w.alloc (.cells c 63)).alloc (.cells VS.zero.c 63)).heap[w.heap.size]? = some (.cells c 63 (0, 0)) from heap_alloc2_old _ _ _)
  have HZ0 := Lib.hid (show ((w.alloc (.cells c 63)).alloc (.cells VS.zero.c 63)).heap[w.heap.size + 1]? = some (.cells VS.zero.c 63 (0, 0)) from heap_alloc2_new _ _ _)
  have HBL0 := Lib.hid (((Below.refl w.heap.size w).alloc (Nat.le_refl _) (.cells c 63)).alloc (by simp) (.cells VS.zero.c 63))
  clear hone hT hdz hczi
  go_enter Tryd.func77, Tryd.ntmps77
  go_wp2_with (refine wpList_load_row rfl 63 _ rfl w.heap.size rfl 63 c (0, 0) _ H0.out Tryd.underlying63 rfl HIC.out ?_)
  refine (HBAD.out _).mono ?_
  rintro e w1 ⟨rfl, hb⟩
  have H1 := Lib.hid (below_cells H0.out hb)
  have HZ1 := Lib.hid (below_cells HZ0.out hb)
  have HBL1 := Lib.hid (HBL0.out.trans (hb.mono HBL0.out.size))
  clear hb
  have HD := Lib.hid (show w1.heap[w.heap.size]? = some (.cells d 63 (0, 0)) by rw [← HT.out]; exact H1.out)
  have hf0 := frozen_of_row _ _ 0 _ _ H1.out
  have hk0 := (cell_of_row _ _ 0 _ _ _ H1.out).trans hc0
  have hf2 := frozen_of_row _ _ 2 _ _ H1.out
  have hk2 := (cell_of_row _ _ 2 _ _ _ H1.out).trans hc2
  go_wp2_with (first | go_skip | (refine wpList_load_row rfl 63 _ rfl w.heap.size rfl 63 d (0, 0) _ HD.out Tryd.underlying63 rfl HI.out ?_) | (refine wpList_store_row rfl 63 _ _ rfl (w.heap.size + 1) d rfl rfl 63 VS.zero.c HZ1.out HI.out HSZ.out HO.out ?_))
  exact bodyPost_ret (v := .tuple #[.agg d, .int .i64 (-1), .nilIface]) (results_cell_tmp2 Tryd.results77 _ _ (w.heap.size + 1) 63 d (0, 0) _ rfl (setRow_heap _ _ _ _ _ _ HZ1.out) Tryd.underlying63 rfl HI.out) rfl ⟨rfl, below_setRow (HBL1.out) (by simp) _⟩

set_option maxRecDepth 100000 in
set_option maxHeartbeats 2000000 in
theorem vs_write_32_0 (c d : Array Value) (v st y x : Nat) (w : World) (hdz : d.size = 21) (hone : d.all (·.oneCell') = true) (hczi : c.size = 21)
    (HBAD : Hid (∀ W, Calls Tryd.prog 70 #[.agg c, .int .u32 32] W fun e w' => e = .returned .nilIface ∧ Below W.heap.size W w'))
    (hT : c.setIfInBounds 5 (.int .u32 v) = d)
    (hc0 : c[0]? = some (.int .u32 st))
    (hc2 : c[2]? = some (.int .u32 0))
    (hcd : c[5]? = some (.int .u32 x))
    (hb1 : bits BinOp.and IntKind.u32 (st : Int) 8 = (y : Int))
    (hy : ((y : Int) == 0) = true) :
    Calls Tryd.prog 77 #[.agg c, .int .u32 32, .int .u32 v] w fun e w' => e = .returned (.tuple #[.agg d, .int .i64 (-1), .nilIface]) ∧ Below w.heap.size w w' := by
  have HT := Lib.hid hT
  have HI := Lib.hid (show (Tryd.prog.info? 63).map (·.size) = some d.size by rw [hdz]; kernel_rfl)
  have HIC := Lib.hid (show (Tryd.prog.info? 63).map (·.size) = some c.size by rw [hczi]; kernel_rfl)
  have HO := Lib.hid hone
  have HSZ : Hid (VS.zero.c.size = d.size) := Lib.hid (by rw [hdz]; rfl)
  have HSC : Hid (c.size = d.size) := Lib.hid (by rw [hdz, hczi])
  have H0 := Lib.hid (show ((w.alloc (.cells c 63)).alloc (.cells VS.zero.c 63)).heap[w.heap.size]? = some (.cells c 63 (0, 0)) from heap_alloc2_old _ _ _)
  have HZ0 := Lib.hid (show ((w.alloc (.cells c 63)).alloc (.cells VS.zero.c 63)).heap[w.heap.size + 1]? = some (.cells VS.zero.c 63 (0, 0)) from heap_alloc2_new _ _ _)
  have HBL0 := Lib.hid (((Below.refl w.heap.size w).alloc (Nat.le_refl _) (.cells c 63)).alloc (by simp) (.cells VS.zero.c 63))
  clear hone hT hdz hczi
  go_enter Tryd.func77, Tryd.ntmps77
  go_wp2_with (refine wpList_load_row rfl 63 _ rfl w.heap.size rfl 63 c (0, 0) _ H0.out Tryd.underlying63 rfl HIC.out ?_)
  refine (HBAD.out _).mono ?_
  rintro e w1 ⟨rfl, hb⟩
  have H1 := Lib.hid (below_cells H0.out hb)
  have HZ1 := Lib.hid (below_cells HZ0.out hb)
  have HBL1 := Lib.hid (HBL0.out.trans (hb.mono HBL0.out.size))
  clear hb
  have hf0 := frozen_of_row _ _ 0 _ _ H1.out
  have hk0 := (cell_of_row _ _ 0 _ _ _ H1.out).trans hc0
  have hf2 := frozen_of_row _ _ 2 _ _ H1.out
  have hk2 := (cell_of_row _ _ 2 _ _ _ H1.out).trans hc2
  have hf5 := frozen_of_row _ _ 5 _ _ H1.out
  have hk5 := (cell_of_row _ _ 5 _ _ _ H1.out).trans hcd
  have A1 : (w1.setCell ⟨w.heap.size, 5, none⟩ (.int .u32 v)).heap[w.heap.size]? = some (.cells (c.setIfInBounds 5 (.int .u32 v)) 63 (0, 0)) := heap_setCell_same _ _ _ _ _ _ H1.out
  rw [HT.out] at A1
  have HD := Lib.hid A1
  have HZ2 := Lib.hid (show (w1.setCell ⟨w.heap.size, 5, none⟩ (.int .u32 v)).heap[w.heap.size + 1]? = some (.cells VS.zero.c 63 (0, 0)) from (heap_setCell_other _ _ _ _ (by simp)).trans HZ1.out)
  clear A1
  go_wp2_with (first | (refine wpList_load_row rfl 63 _ rfl w.heap.size rfl 63 d (0, 0) _ HD.out Tryd.underlying63 rfl HI.out ?_) | (refine wpList_store_row rfl 63 _ _ rfl (w.heap.size + 1) d rfl rfl 63 VS.zero.c HZ2.out HI.out HSZ.out HO.out ?_))
  exact bodyPost_ret (v := .tuple #[.agg d, .int .i64 (-1), .nilIface]) (results_cell_tmp2 Tryd.results77 _ _ (w.heap.size + 1) 63 d (0, 0) _ rfl (setRow_heap _ _ _ _ _ _ HZ2.out) Tryd.underlying63 rfl HI.out) rfl ⟨rfl, below_setRow (HBL1.out.setCell (Nat.le_refl _) _) (by simp) _⟩

set_option maxRecDepth 100000 in
set_option maxHeartbeats 2000000 in
theorem vs_write_32_1 (c d : Array Value) (v st y x : Nat) (w : World) (hdz : d.size = 21) (hone : d.all (·.oneCell') = true) (hczi : c.size = 21)
    (HBAD : Hid (∀ W, Calls Tryd.prog 70 #[.agg c, .int .u32 32] W fun e w' => e = .returned .nilIface ∧ Below W.heap.size W w'))
    (hT : c.setIfInBounds 6 (.int .u32 v) = d)
    (hc0 : c[0]? = some (.int .u32 st))
    (hc2 : c[2]? = some (.int .u32 1))
    (hcd : c[6]? = some (.int .u32 x))
    (hb1 : bits BinOp.and IntKind.u32 (st : Int) 8 = (y : Int))
    (hy : ((y : Int) == 0) = true) :
    Calls Tryd.prog 77 #[.agg c, .int .u32 32, .int .u32 v] w fun e w' => e = .returned (.tuple #[.agg d, .int .i64 (-1), .nilIface]) ∧ Below w.heap.size w w' := by
  have HT := Lib.hid hT
  have HI := Lib.hid (show (Tryd.prog.info? 63).map (·.size) = some d.size by rw [hdz]; kernel_rfl)
  have HIC := Lib.hid (show (Tryd.prog.info? 63).map (·.size) = some c.size by rw [hczi]; kernel_rfl)
  have HO := Lib.hid hone
  have HSZ : Hid (VS.zero.c.size = d.size) := Lib.hid (by rw [hdz]; rfl)
  have HSC : Hid (c.size = d.size) := Lib.hid (by rw [hdz, hczi])
  have H0 := Lib.hid (show ((w.alloc (.cells c 63)).alloc (.cells VS.zero.c 63)).heap[w.heap.size]? = some (.cells c 63 (0, 0)) from heap_alloc2_old _ _ _)
  have HZ0 := Lib.hid (show ((w.alloc (.cells c 63)).alloc (.cells VS.zero.c 63)).heap[w.heap.size + 1]? = some (.cells VS.zero.c 63 (0, 0)) from heap_alloc2_new _ _ _)
  have HBL0 := Lib.hid (((Below.refl w.heap.size w).alloc (Nat.le_refl _) (.cells c 63)).alloc (by simp) (.cells VS.zero.c 63))
  clear hone hT hdz hczi
  go_enter Tryd.func77, Tryd.ntmps77
  go_wp2_with (refine wpList_load_row rfl 63 _ rfl w.heap.size rfl 63 c (0, 0) _ H0.out Tryd.underlying63 rfl HIC.out ?_)
  refine (HBAD.out _).mono ?_
  rintro e w1 ⟨rfl, hb⟩
  have H1 := Lib.hid (below_cells H0.out hb)
  have HZ1 := Lib.hid (below_cells HZ0.out hb)
  have HBL1 := Lib.hid (HBL0.out.trans (hb.mono HBL0.out.size))
  clear hb
  have hf0 := frozen_of_row _ _ 0 _ _ H1.out
  have hk0 := (cell_of_row _ _ 0 _ _ _ H1.out).trans hc0
  have hf2 := frozen_of_row _ _ 2 _ _ H1.out
  have hk2 := (cell_of_row _ _ 2 _ _ _ H1.out).trans hc2
  have hf6 := frozen_of_row _ _ 6 _ _ H1.out
  have hk6 := (cell_of_row _ _ 6 _ _ _ H1.out).trans hcd
  have A1 : (w1.setCell ⟨w.heap.size, 6, none⟩ (.int .u32 v)).heap[w.heap.size]? = some (.cells (c.setIfInBounds 6 (.int .u32 v)) 63 (0, 0)) := heap_setCell_same _ _ _ _ _ _ H1.out
  rw [HT.out] at A1
  have HD := Lib.hid A1
  have HZ2 := Lib.hid (show (w1.setCell ⟨w.heap.size, 6, none⟩ (.int .u32 v)).heap[w.heap.size + 1]? = some (.cells VS.zero.c 63 (0, 0)) from (heap_setCell_other _ _ _ _ (by simp)).trans HZ1.out)
  clear A1
  go_wp2_with (first | (refine wpList_load_row rfl 63 _ rfl w.heap.size rfl 63 d (0, 0) _ HD.out Tryd.underlying63 rfl HI.out ?_) | (refine wpList_store_row rfl 63 _ _ rfl (w.heap.size + 1) d rfl rfl 63 VS.zero.c HZ2.out HI.out HSZ.out HO.out ?_))
  exact bodyPost_ret (v := .tuple #[.agg d, .int .i64 (-1), .nilIface]) (results_cell_tmp2 Tryd.results77 _ _ (w.heap.size + 1) 63 d (0, 0) _ rfl (setRow_heap _ _ _ _ _ _ HZ2.out) Tryd.underlying63 rfl HI.out) rfl ⟨rfl, below_setRow (HBL1.out.setCell (Nat.le_refl _) _) (by simp) _⟩

set_option maxRecDepth 100000 in
set_option maxHeartbeats 2000000 in
theorem vs_write_80a (c d : Array Value) (v : Nat) (w : World) (hdz : d.size = 21) (hone : d.all (·.oneCell') = true) (hczi : c.size = 21)
    (HBAD : Hid (∀ W, Calls Tryd.prog 70 #[.agg c, .int .u32 80] W fun e w' => e = .returned .nilIface ∧ Below W.heap.size W w'))
    (hT : c = d)
    (hv : ¬ (v : Int) < 2) :
    Calls Tryd.prog 77 #[.agg c, .int .u32 80, .int .u32 v] w fun e w' => e = .returned (.tuple #[.agg d, .int .i64 (-1), .nilIface]) ∧ Below w.heap.size w w' := by
  have HT := Lib.hid hT
  have HI := Lib.hid (show (Tryd.prog.info? 63).map (·.size) = some d.size by rw [hdz]; kernel_rfl)
  have HIC := Lib.hid (show (Tryd.prog.info? 63).map (·.size) = some c.size by rw [hczi]; kernel_rfl)
  have HO := Lib.hid hone
  have HSZ : Hid (VS.zero.c.size = d.size) := Lib.hid (by rw [hdz]; rfl)
  have HSC : Hid (c.size = d.size) := Lib.hid (by rw [hdz, hczi])
  have H0 := Lib.hid (show ((w.alloc (.cells c 63)).alloc (.cells VS.zero.c 63)).heap[w.heap.size]? = some (.cells c 63 (0, 0)) from heap_alloc2_old _ _ _)
  have HZ0 := Lib.hid (show ((w.alloc (.cells c 63)).alloc (.cells VS.zero.c 63)).heap[w.heap.size + 1]? = some (.cells VS.zero.c 63 (0, 0)) from heap_alloc2_new _ _ _)
  have HBL0 := Lib.hid (((Below.refl w.heap.size w).alloc (Nat.le_refl _) (.cells c 63)).alloc (by simp) (.cells VS.zero.c 63))
  clear hone hT hdz hczi
  go_enter Tryd.func77, Tryd.ntmps77
  go_wp2_with (refine wpList_load_row rfl 63 _ rfl w.heap.size rfl 63 c (0, 0) _ H0.out Tryd.underlying63 rfl HIC.out ?_)
  refine (HBAD.out _).mono ?_
  rintro e w1 ⟨rfl, hb⟩
  have H1 := Lib.hid (below_cells H0.out hb)
  have HZ1 := Lib.hid (below_cells HZ0.out hb)
  have HBL1 := Lib.hid (HBL0.out.trans (hb.mono HBL0.out.size))
  clear hb
  have HD := Lib.hid (show w1.heap[w.heap.size]? = some (.cells d 63 (0, 0)) by rw [← HT.out]; exact H1.out)
  go_wp2_with (first | go_skip | (refine wpList_load_row rfl 63 _ rfl w.heap.size rfl 63 d (0, 0) _ HD.out Tryd.underlying63 rfl HI.out ?_) | (refine wpList_store_row rfl 63 _ _ rfl (w.heap.size + 1) d rfl rfl 63 VS.zero.c HZ1.out HI.out HSZ.out HO.out ?_))
  exact bodyPost_ret (v := .tuple #[.agg d, .int .i64 (-1), .nilIface]) (results_cell_tmp2 Tryd.results77 _ _ (w.heap.size + 1) 63 d (0, 0) _ rfl (setRow_heap _ _ _ _ _ _ HZ1.out) Tryd.underlying63 rfl HI.out) rfl ⟨rfl, below_setRow (HBL1.out) (by simp) _⟩

set_option maxRecDepth 100000 in
set_option maxHeartbeats 2000000 in
theorem vs_write_80_0f (c d : Array Value) (w : World) (hdz : d.size = 21) (hone : d.all (·.oneCell') = true) (hczi : c.size = 21)
    (HBAD : Hid (∀ W, Calls Tryd.prog 70 #[.agg c, .int .u32 80] W fun e w' => e = .returned .nilIface ∧ Below W.heap.size W w'))
    (hT : c = d)
    (hcr : c[7]? = some (.bool false)) :
    Calls Tryd.prog 77 #[.agg c, .int .u32 80, .int .u32 0] w fun e w' => e = .returned (.tuple #[.agg d, .int .i64 (-1), .nilIface]) ∧ Below w.heap.size w w' := by
  have HT := Lib.hid hT
  have HI := Lib.hid (show (Tryd.prog.info? 63).map (·.size) = some d.size by rw [hdz]; kernel_rfl)
  have HIC := Lib.hid (show (Tryd.prog.info? 63).map (·.size) = some c.size by rw [hczi]; kernel_rfl)
  have HO := Lib.hid hone
  have HSZ : Hid (VS.zero.c.size = d.size) := Lib.hid (by rw [hdz]; rfl)
  have HSC : Hid (c.size = d.size) := Lib.hid (by rw [hdz, hczi])
  have H0 := Lib.hid (show ((w.alloc (.cells c 63)).alloc (.cells VS.zero.c 63)).heap[w.heap.size]? = some (.cells c 63 (0, 0)) from heap_alloc2_old _ _ _)
  have HZ0 := Lib.hid (show ((w.alloc (.cells c 63)).alloc (.cells VS.zero.c 63)).heap[w.heap.size + 1]? = some (.cells VS.zero.c 63 (0, 0)) from heap_alloc2_new _ _ _)
  have HBL0 := Lib.hid (((Below.refl w.heap.size w).alloc (Nat.le_refl _) (.cells c 63)).alloc (by simp) (.cells VS.zero.c 63))
  clear hone hT hdz hczi
  go_enter Tryd.func77, Tryd.ntmps77
  go_wp2_with (refine wpList_load_row rfl 63 _ rfl w.heap.size rfl 63 c (0, 0) _ H0.out Tryd.underlying63 rfl HIC.out ?_)
  refine (HBAD.out _).mono ?_
  rintro e w1 ⟨rfl, hb⟩
  have H1 := Lib.hid (below_cells H0.out hb)
  have HZ1 := Lib.hid (below_cells HZ0.out hb)
  have HBL1 := Lib.hid (HBL0.out.trans (hb.mono HBL0.out.size))
  clear hb
  have HD := Lib.hid (show w1.heap[w.heap.size]? = some (.cells d 63 (0, 0)) by rw [← HT.out]; exact H1.out)
  have hf7 := frozen_of_row _ _ 7 _ _ H1.out
  have hk7 := (cell_of_row _ _ 7 _ _ _ H1.out).trans hcr
  go_wp2_with (first | go_skip | (refine wpList_load_row rfl 63 _ rfl w.heap.size rfl 63 d (0, 0) _ HD.out Tryd.underlying63 rfl HI.out ?_) | (refine wpList_store_row rfl 63 _ _ rfl (w.heap.size + 1) d rfl rfl 63 VS.zero.c HZ1.out HI.out HSZ.out HO.out ?_))
  exact bodyPost_ret (v := .tuple #[.agg d, .int .i64 (-1), .nilIface]) (results_cell_tmp2 Tryd.results77 _ _ (w.heap.size + 1) 63 d (0, 0) _ rfl (setRow_heap _ _ _ _ _ _ HZ1.out) Tryd.underlying63 rfl HI.out) rfl ⟨rfl, below_setRow (HBL1.out) (by simp) _⟩

set_option maxRecDepth 100000 in
set_option maxHeartbeats 2000000 in
theorem vs_write_80_0n (c d : Array Value) (w : World) (hdz : d.size = 21) (hone : d.all (·.oneCell') = true) (hczi : c.size = 21)
    (HBAD : Hid (∀ W, Calls Tryd.prog 70 #[.agg c, .int .u32 80] W fun e w' => e = .returned .nilIface ∧ Below W.heap.size W w'))
    (hT : c = d)
    (hcr : c[7]? = some (.bool true))
    (HL : Hid (∀ W, Calls Tryd.prog 28 #[.agg c] W fun e w' => e = .returned (.bool false) ∧ Below W.heap.size W w')) :
    Calls Tryd.prog 77 #[.agg c, .int .u32 80, .int .u32 0] w fun e w' => e = .returned (.tuple #[.agg d, .int .i64 (-1), .nilIface]) ∧ Below w.heap.size w w' := by
  have HT := Lib.hid hT
  have HI := Lib.hid (show (Tryd.prog.info? 63).map (·.size) = some d.size by rw [hdz]; kernel_rfl)
  have HIC := Lib.hid (show (Tryd.prog.info? 63).map (·.size) = some c.size by rw [hczi]; kernel_rfl)
  have HO := Lib.hid hone
  have HSZ : Hid (VS.zero.c.size = d.size) := Lib.hid (by rw [hdz]; rfl)
  have HSC : Hid (c.size = d.size) := Lib.hid (by rw [hdz, hczi])
  have H0 := Lib.hid (show ((w.alloc (.cells c 63)).alloc (.cells VS.zero.c 63)).heap[w.heap.size]? = some (.cells c 63 (0, 0)) from heap_alloc2_old _ _ _)
  have HZ0 := Lib.hid (show ((w.alloc (.cells c 63)).alloc (.cells VS.zero.c 63)).heap[w.heap.size + 1]? = some (.cells VS.zero.c 63 (0, 0)) from heap_alloc2_new _ _ _)
  have HBL0 := Lib.hid (((Below.refl w.heap.size w).alloc (Nat.le_refl _) (.cells c 63)).alloc (by simp) (.cells VS.zero.c 63))
  clear hone hT hdz hczi
  go_enter Tryd.func77, Tryd.ntmps77
  go_wp2_with (refine wpList_load_row rfl 63 _ rfl w.heap.size rfl 63 c (0, 0) _ H0.out Tryd.underlying63 rfl HIC.out ?_)
  refine (HBAD.out _).mono ?_
  rintro e w1 ⟨rfl, hb⟩
  have H1 := Lib.hid (below_cells H0.out hb)
  have HZ1 := Lib.hid (below_cells HZ0.out hb)
  have HBL1 := Lib.hid (HBL0.out.trans (hb.mono HBL0.out.size))
  clear hb
  have HD := Lib.hid (show w1.heap[w.heap.size]? = some (.cells d 63 (0, 0)) by rw [← HT.out]; exact H1.out)
  have hf7 := frozen_of_row _ _ 7 _ _ H1.out
  have hk7 := (cell_of_row _ _ 7 _ _ _ H1.out).trans hcr
  go_wp2_with (first | go_skip | (refine load_rowW rfl 63 _ rfl w.heap.size rfl 63 c (0, 0) _ H1.out Tryd.underlying63 rfl HIC.out ?_))
  refine (HL.out _).mono ?_
  rintro e w2 ⟨rfl, hb⟩
  have HD2 := Lib.hid (below_cells HD.out hb)
  have HZ2 := Lib.hid (below_cells HZ1.out hb)
  have HBL2 := Lib.hid (HBL1.out.trans (hb.mono HBL1.out.size))
  clear hb
  go_wp2_with (first | (refine wpList_load_row rfl 63 _ rfl w.heap.size rfl 63 d (0, 0) _ HD2.out Tryd.underlying63 rfl HI.out ?_) | (refine wpList_store_row rfl 63 _ _ rfl (w.heap.size + 1) d rfl rfl 63 VS.zero.c HZ2.out HI.out HSZ.out HO.out ?_))
  exact bodyPost_ret (v := .tuple #[.agg d, .int .i64 (-1), .nilIface]) (results_cell_tmp2 Tryd.results77 _ _ (w.heap.size + 1) 63 d (0, 0) _ rfl (setRow_heap _ _ _ _ _ _ HZ2.out) Tryd.underlying63 rfl HI.out) rfl ⟨rfl, below_setRow (HBL2.out) (by simp) _⟩

set_option maxRecDepth 100000 in
set_option maxHeartbeats 2000000 in
theorem vs_write_80_0l (c d : Array Value) (w : World) (hdz : d.size = 21) (hone : d.all (·.oneCell') = true) (hczi : c.size = 21)
    (HBAD : Hid (∀ W, Calls Tryd.prog 70 #[.agg c, .int .u32 80] W fun e w' => e = .returned .nilIface ∧ Below W.heap.size W w'))
    (hT : c = d)
    (hcr : c[7]? = some (.bool true))
    (HL : Hid (∀ W, Calls Tryd.prog 28 #[.agg c] W fun e w' => e = .returned (.bool true) ∧ Below W.heap.size W w')) :
    Calls Tryd.prog 77 #[.agg c, .int .u32 80, .int .u32 0] w fun e w' => e = .returned (.tuple #[.agg d, .int .i64 0, .nilIface]) ∧ Below w.heap.size w w' := by
  have HT := Lib.hid hT
  have HI := Lib.hid (show (Tryd.prog.info? 63).map (·.size) = some d.size by rw [hdz]; kernel_rfl)
  have HIC := Lib.hid (show (Tryd.prog.info? 63).map (·.size) = some c.size by rw [hczi]; kernel_rfl)
  have HO := Lib.hid hone
  have HSZ : Hid (VS.zero.c.size = d.size) := Lib.hid (by rw [hdz]; rfl)
  have HSC : Hid (c.size = d.size) := Lib.hid (by rw [hdz, hczi])
  have H0 := Lib.hid (show ((w.alloc (.cells c 63)).alloc (.cells VS.zero.c 63)).heap[w.heap.size]? = some (.cells c 63 (0, 0)) from heap_alloc2_old _ _ _)
  have HZ0 := Lib.hid (show ((w.alloc (.cells c 63)).alloc (.cells VS.zero.c 63)).heap[w.heap.size + 1]? = some (.cells VS.zero.c 63 (0, 0)) from heap_alloc2_new _ _ _)
  have HBL0 := Lib.hid (((Below.refl w.heap.size w).alloc (Nat.le_refl _) (.cells c 63)).alloc (by simp) (.cells VS.zero.c 63))
  clear hone hT hdz hczi
  go_enter Tryd.func77, Tryd.ntmps77
  go_wp2_with (refine wpList_load_row rfl 63 _ rfl w.heap.size rfl 63 c (0, 0) _ H0.out Tryd.underlying63 rfl HIC.out ?_)
  refine (HBAD.out _).mono ?_
  rintro e w1 ⟨rfl, hb⟩
  have H1 := Lib.hid (below_cells H0.out hb)
  have HZ1 := Lib.hid (below_cells HZ0.out hb)
  have HBL1 := Lib.hid (HBL0.out.trans (hb.mono HBL0.out.size))
  clear hb
  have HD := Lib.hid (show w1.heap[w.heap.size]? = some (.cells d 63 (0, 0)) by rw [← HT.out]; exact H1.out)
  have hf7 := frozen_of_row _ _ 7 _ _ H1.out
  have hk7 := (cell_of_row _ _ 7 _ _ _ H1.out).trans hcr
  go_wp2_with (first | go_skip | (refine load_rowW rfl 63 _ rfl w.heap.size rfl 63 c (0, 0) _ H1.out Tryd.underlying63 rfl HIC.out ?_))
  refine (HL.out _).mono ?_
  rintro e w2 ⟨rfl, hb⟩
  have HD2 := Lib.hid (below_cells HD.out hb)
  have HZ2 := Lib.hid (below_cells HZ1.out hb)
  have HBL2 := Lib.hid (HBL1.out.trans (hb.mono HBL1.out.size))
  clear hb
  go_wp2_with (first | (refine wpList_load_row rfl 63 _ rfl w.heap.size rfl 63 d (0, 0) _ HD2.out Tryd.underlying63 rfl HI.out ?_) | (refine wpList_store_row rfl 63 _ _ rfl (w.heap.size + 1) d rfl rfl 63 VS.zero.c HZ2.out HI.out HSZ.out HO.out ?_))
  exact bodyPost_ret (v := .tuple #[.agg d, .int .i64 0, .nilIface]) (results_cell_tmp2 Tryd.results77 _ _ (w.heap.size + 1) 63 d (0, 0) _ rfl (setRow_heap _ _ _ _ _ _ HZ2.out) Tryd.underlying63 rfl HI.out) rfl ⟨rfl, below_setRow (HBL2.out) (by simp) _⟩

set_option maxRecDepth 100000 in
set_option maxHeartbeats 2000000 in
theorem vs_write_80_1f (c d : Array Value) (w : World) (hdz : d.size = 21) (hone : d.all (·.oneCell') = true) (hczi : c.size = 21)
    (HBAD : Hid (∀ W, Calls Tryd.prog 70 #[.agg c, .int .u32 80] W fun e w' => e = .returned .nilIface ∧ Below W.heap.size W w'))
    (hT : c = d)
    (hcr : c[14]? = some (.bool false)) :
    Calls Tryd.prog 77 #[.agg c, .int .u32 80, .int .u32 1] w fun e w' => e = .returned (.tuple #[.agg d, .int .i64 (-1), .nilIface]) ∧ Below w.heap.size w w' := by
  have HT := Lib.hid hT
  have HI := Lib.hid (show (Tryd.prog.info? 63).map (·.size) = some d.size by rw [hdz]; kernel_rfl)
  have HIC := Lib.hid (show (Tryd.prog.info? 63).map (·.size) = some c.size by rw [hczi]; kernel_rfl)
  have HO := Lib.hid hone
  have HSZ : Hid (VS.zero.c.size = d.size) := Lib.hid (by rw [hdz]; rfl)
  have HSC : Hid (c.size = d.size) := Lib.hid (by rw [hdz, hczi])
  have H0 := Lib.hid (show ((w.alloc (.cells c 63)).alloc (.cells VS.zero.c 63)).heap[w.heap.size]? = some (.cells c 63 (0, 0)) from heap_alloc2_old _ _ _)
  have HZ0 := Lib.hid (show ((w.alloc (.cells c 63)).alloc (.cells VS.zero.c 63)).heap[w.heap.size + 1]? = some (.cells VS.zero.c 63 (0, 0)) from heap_alloc2_new _ _ _)
  have HBL0 := Lib.hid (((Below.refl w.heap.size w).alloc (Nat.le_refl _) (.cells c 63)).alloc (by simp) (.cells VS.zero.c 63))
  clear hone hT hdz hczi
  go_enter Tryd.func77, Tryd.ntmps77
  go_wp2_with (refine wpList_load_row rfl 63 _ rfl w.heap.size rfl 63 c (0, 0) _ H0.out Tryd.underlying63 rfl HIC.out ?_)
  refine (HBAD.out _).mono ?_
  rintro e w1 ⟨rfl, hb⟩
  have H1 := Lib.hid (below_cells H0.out hb)
  have HZ1 := Lib.hid (below_cells HZ0.out hb)
  have HBL1 := Lib.hid (HBL0.out.trans (hb.mono HBL0.out.size))
  clear hb
  have HD := Lib.hid (show w1.heap[w.heap.size]? = some (.cells d 63 (0, 0)) by rw [← HT.out]; exact H1.out)
  have hf14 := frozen_of_row _ _ 14 _ _ H1.out
  have hk14 := (cell_of_row _ _ 14 _ _ _ H1.out).trans hcr
  go_wp2_with (first | go_skip | (refine wpList_load_row rfl 63 _ rfl w.heap.size rfl 63 d (0, 0) _ HD.out Tryd.underlying63 rfl HI.out ?_) | (refine wpList_store_row rfl 63 _ _ rfl (w.heap.size + 1) d rfl rfl 63 VS.zero.c HZ1.out HI.out HSZ.out HO.out ?_))
  exact bodyPost_ret (v := .tuple #[.agg d, .int .i64 (-1), .nilIface]) (results_cell_tmp2 Tryd.results77 _ _ (w.heap.size + 1) 63 d (0, 0) _ rfl (setRow_heap _ _ _ _ _ _ HZ1.out) Tryd.underlying63 rfl HI.out) rfl ⟨rfl, below_setRow (HBL1.out) (by simp) _⟩

set_option maxRecDepth 100000 in
set_option maxHeartbeats 2000000 in
theorem vs_write_80_1n (c d : Array Value) (w : World) (hdz : d.size = 21) (hone : d.all (·.oneCell') = true) (hczi : c.size = 21)
    (HBAD : Hid (∀ W, Calls Tryd.prog 70 #[.agg c, .int .u32 80] W fun e w' => e = .returned .nilIface ∧ Below W.heap.size W w'))
    (hT : c = d)
    (hcr : c[14]? = some (.bool true))
    (HL : Hid (∀ W, Calls Tryd.prog 28 #[.agg c] W fun e w' => e = .returned (.bool false) ∧ Below W.heap.size W w')) :
    Calls Tryd.prog 77 #[.agg c, .int .u32 80, .int .u32 1] w fun e w' => e = .returned (.tuple #[.agg d, .int .i64 (-1), .nilIface]) ∧ Below w.heap.size w w' := by
  have HT := Lib.hid hT
  have HI := Lib.hid (show (Tryd.prog.info? 63).map (·.size) = some d.size by rw [hdz]; kernel_rfl)
  have HIC := Lib.hid (show (Tryd.prog.info? 63).map (·.size) = some c.size by rw [hczi]; kernel_rfl)
  have HO := Lib.hid hone
  have HSZ : Hid (VS.zero.c.size = d.size) := Lib.hid (by rw [hdz]; rfl)
  have HSC : Hid (c.size = d.size) := Lib.hid (by rw [hdz, hczi])
  have H0 := Lib.hid (show ((w.alloc (.cells c 63)).alloc (.cells VS.zero.c 63)).heap[w.heap.size]? = some (.cells c 63 (0, 0)) from heap_alloc2_old _ _ _)
  have HZ0 := Lib.hid (show ((w.alloc (.cells c 63)).alloc (.cells VS.zero.c 63)).heap[w.heap.size + 1]? = some (.cells VS.zero.c 63 (0, 0)) from heap_alloc2_new _ _ _)
  have HBL0 := Lib.hid (((Below.refl w.heap.size w).alloc (Nat.le_refl _) (.cells c 63)).alloc (by simp) (.cells VS.zero.c 63))
  clear hone hT hdz hczi
  go_enter Tryd.func77, Tryd.ntmps77
  go_wp2_with (refine wpList_load_row rfl 63 _ rfl w.heap.size rfl 63 c (0, 0) _ H0.out Tryd.underlying63 rfl HIC.out ?_)
  refine (HBAD.out _).mono ?_
  rintro e w1 ⟨rfl, hb⟩
  have H1 := Lib.hid (below_cells H0.out hb)
  have HZ1 := Lib.hid (below_cells HZ0.out hb)
  have HBL1 := Lib.hid (HBL0.out.trans (hb.mono HBL0.out.size))
  clear hb
  have HD := Lib.hid (show w1.heap[w.heap.size]? = some (.cells d 63 (0, 0)) by rw [← HT.out]; exact H1.out)
  have hf14 := frozen_of_row _ _ 14 _ _ H1.out
  have hk14 := (cell_of_row _ _ 14 _ _ _ H1.out).trans hcr
  go_wp2_with (first | go_skip | (refine load_rowW rfl 63 _ rfl w.heap.size rfl 63 c (0, 0) _ H1.out Tryd.underlying63 rfl HIC.out ?_))
  refine (HL.out _).mono ?_
  rintro e w2 ⟨rfl, hb⟩
  have HD2 := Lib.hid (below_cells HD.out hb)
  have HZ2 := Lib.hid (below_cells HZ1.out hb)
  have HBL2 := Lib.hid (HBL1.out.trans (hb.mono HBL1.out.size))
  clear hb
  go_wp2_with (first | (refine wpList_load_row rfl 63 _ rfl w.heap.size rfl 63 d (0, 0) _ HD2.out Tryd.underlying63 rfl HI.out ?_) | (refine wpList_store_row rfl 63 _ _ rfl (w.heap.size + 1) d rfl rfl 63 VS.zero.c HZ2.out HI.out HSZ.out HO.out ?_))
  exact bodyPost_ret (v := .tuple #[.agg d, .int .i64 (-1), .nilIface]) (results_cell_tmp2 Tryd.results77 _ _ (w.heap.size + 1) 63 d (0, 0) _ rfl (setRow_heap _ _ _ _ _ _ HZ2.out) Tryd.underlying63 rfl HI.out) rfl ⟨rfl, below_setRow (HBL2.out) (by simp) _⟩

set_option maxRecDepth 100000 in
set_option maxHeartbeats 2000000 in
theorem vs_write_80_1l (c d : Array Value) (w : World) (hdz : d.size = 21) (hone : d.all (·.oneCell') = true) (hczi : c.size = 21)
    (HBAD : Hid (∀ W, Calls Tryd.prog 70 #[.agg c, .int .u32 80] W fun e w' => e = .returned .nilIface ∧ Below W.heap.size W w'))
    (hT : c = d)
    (hcr : c[14]? = some (.bool true))
    (HL : Hid (∀ W, Calls Tryd.prog 28 #[.agg c] W fun e w' => e = .returned (.bool true) ∧ Below W.heap.size W w')) :
    Calls Tryd.prog 77 #[.agg c, .int .u32 80, .int .u32 1] w fun e w' => e = .returned (.tuple #[.agg d, .int .i64 1, .nilIface]) ∧ Below w.heap.size w w' := by
  have HT := Lib.hid hT
  have HI := Lib.hid (show (Tryd.prog.info? 63).map (·.size) = some d.size by rw [hdz]; kernel_rfl)
  have HIC := Lib.hid (show (Tryd.prog.info? 63).map (·.size) = some c.size by rw [hczi]; kernel_rfl)
  have HO := Lib.hid hone
  have HSZ : Hid (VS.zero.c.size = d.size) := Lib.hid (by rw [hdz]; rfl)
  have HSC : Hid (c.size = d.size) := Lib.hid (by rw [hdz, hczi])
  have H0 := Lib.hid (show ((w.alloc (.cells c 63)).alloc (.cells VS.zero.c 63)).heap[w.heap.size]? = some (.cells c 63 (0, 0)) from heap_alloc2_old _ _ _)
  have HZ0 := Lib.hid (show ((w.alloc (.cells c 63)).alloc (.cells VS.zero.c 63)).heap[w.heap.size + 1]? = some (.cells VS.zero.c 63 (0, 0)) from heap_alloc2_new _ _ _)
  have HBL0 := Lib.hid (((Below.refl w.heap.size w).alloc (Nat.le_refl _) (.cells c 63)).alloc (by simp) (.cells VS.zero.c 63))
  clear hone hT hdz hczi
  go_enter Tryd.func77, Tryd.ntmps77
  go_wp2_with (refine wpList_load_row rfl 63 _ rfl w.heap.size rfl 63 c (0, 0) _ H0.out Tryd.underlying63 rfl HIC.out ?_)
  refine (HBAD.out _).mono ?_
  rintro e w1 ⟨rfl, hb⟩
  have H1 := Lib.hid (below_cells H0.out hb)
  have HZ1 := Lib.hid (below_cells HZ0.out hb)
  have HBL1 := Lib.hid (HBL0.out.trans (hb.mono HBL0.out.size))
  clear hb
  have HD := Lib.hid (show w1.heap[w.heap.size]? = some (.cells d 63 (0, 0)) by rw [← HT.out]; exact H1.out)
  have hf14 := frozen_of_row _ _ 14 _ _ H1.out
  have hk14 := (cell_of_row _ _ 14 _ _ _ H1.out).trans hcr
  go_wp2_with (first | go_skip | (refine load_rowW rfl 63 _ rfl w.heap.size rfl 63 c (0, 0) _ H1.out Tryd.underlying63 rfl HIC.out ?_))
  refine (HL.out _).mono ?_
  rintro e w2 ⟨rfl, hb⟩
  have HD2 := Lib.hid (below_cells HD.out hb)
  have HZ2 := Lib.hid (below_cells HZ1.out hb)
  have HBL2 := Lib.hid (HBL1.out.trans (hb.mono HBL1.out.size))
  clear hb
  go_wp2_with (first | (refine wpList_load_row rfl 63 _ rfl w.heap.size rfl 63 d (0, 0) _ HD2.out Tryd.underlying63 rfl HI.out ?_) | (refine wpList_store_row rfl 63 _ _ rfl (w.heap.size + 1) d rfl rfl 63 VS.zero.c HZ2.out HI.out HSZ.out HO.out ?_))
  exact bodyPost_ret (v := .tuple #[.agg d, .int .i64 1, .nilIface]) (results_cell_tmp2 Tryd.results77 _ _ (w.heap.size + 1) 63 d (0, 0) _ rfl (setRow_heap _ _ _ _ _ _ HZ2.out) Tryd.underlying63 rfl HI.out) rfl ⟨rfl, below_setRow (HBL2.out) (by simp) _⟩

set_option maxRecDepth 100000 in
set_option maxHeartbeats 2000000 in
theorem vs_write_112 (c d : Array Value) (v : Nat) (w : World) (hdz : d.size = 21) (hone : d.all (·.oneCell') = true) (hczi : c.size = 21)
    (HBAD : Hid (∀ W, Calls Tryd.prog 70 #[.agg c, .int .u32 112] W fun e w' => e = .returned .nilIface ∧ Below W.heap.size W w'))
    (hT : True)
    (HF : Hid (∀ W, Calls Tryd.prog 123 #[.agg c, .int .u32 v] W fun e w' => e = .returned (.agg d) ∧ Below W.heap.size W w')) :
    Calls Tryd.prog 77 #[.agg c, .int .u32 112, .int .u32 v] w fun e w' => e = .returned (.tuple #[.agg d, .int .i64 (-1), .nilIface]) ∧ Below w.heap.size w w' := by
  have HT := Lib.hid hT
  have HI := Lib.hid (show (Tryd.prog.info? 63).map (·.size) = some d.size by rw [hdz]; kernel_rfl)
  have HIC := Lib.hid (show (Tryd.prog.info? 63).map (·.size) = some c.size by rw [hczi]; kernel_rfl)
  have HO := Lib.hid hone
  have HSZ : Hid (VS.zero.c.size = d.size) := Lib.hid (by rw [hdz]; rfl)
  have HSC : Hid (c.size = d.size) := Lib.hid (by rw [hdz, hczi])
  have H0 := Lib.hid (show ((w.alloc (.cells c 63)).alloc (.cells VS.zero.c 63)).heap[w.heap.size]? = some (.cells c 63 (0, 0)) from heap_alloc2_old _ _ _)
  have HZ0 := Lib.hid (show ((w.alloc (.cells c 63)).alloc (.cells VS.zero.c 63)).heap[w.heap.size + 1]? = some (.cells VS.zero.c 63 (0, 0)) from heap_alloc2_new _ _ _)
  have HBL0 := Lib.hid (((Below.refl w.heap.size w).alloc (Nat.le_refl _) (.cells c 63)).alloc (by simp) (.cells VS.zero.c 63))
  clear hone hT hdz hczi
  go_enter Tryd.func77, Tryd.ntmps77
  go_wp2_with (refine wpList_load_row rfl 63 _ rfl w.heap.size rfl 63 c (0, 0) _ H0.out Tryd.underlying63 rfl HIC.out ?_)
  refine (HBAD.out _).mono ?_
  rintro e w1 ⟨rfl, hb⟩
  have H1 := Lib.hid (below_cells H0.out hb)
  have HZ1 := Lib.hid (below_cells HZ0.out hb)
  have HBL1 := Lib.hid (HBL0.out.trans (hb.mono HBL0.out.size))
  clear hb
  go_wp2_with (refine wpList_load_row rfl 63 _ rfl w.heap.size rfl 63 c (0, 0) _ H1.out Tryd.underlying63 rfl HIC.out ?_)
  refine (HF.out _).mono ?_
  rintro e w2 ⟨rfl, hb⟩
  have H2 := Lib.hid (below_cells H1.out hb)
  have HZ2 := Lib.hid (below_cells HZ1.out hb)
  have HBL2 := Lib.hid (HBL1.out.trans (hb.mono HBL1.out.size))
  have HD := Lib.hid (setRow_heap _ _ _ d _ _ H2.out)
  have HZ3 := Lib.hid (show (w2.setRow w.heap.size d).heap[w.heap.size + 1]? = some (.cells VS.zero.c 63 (0, 0)) from (setRow_other (by omega)).trans HZ2.out)
  clear hb
  go_wp2_with (first | (refine wpList_store_row rfl 63 _ _ rfl w.heap.size d rfl rfl 63 c H2.out HI.out HSC.out HO.out ?_) | (refine wpList_load_row rfl 63 _ rfl w.heap.size rfl 63 d (0, 0) _ HD.out Tryd.underlying63 rfl HI.out ?_) | (refine wpList_store_row rfl 63 _ _ rfl (w.heap.size + 1) d rfl rfl 63 VS.zero.c HZ3.out HI.out HSZ.out HO.out ?_))
  exact bodyPost_ret (v := .tuple #[.agg d, .int .i64 (-1), .nilIface]) (results_cell_tmp2 Tryd.results77 _ _ (w.heap.size + 1) 63 d (0, 0) _ rfl (setRow_heap _ _ _ _ _ _ HZ3.out) Tryd.underlying63 rfl HI.out) rfl ⟨rfl, below_setRow (below_setRow HBL2.out (Nat.le_refl _) _) (by simp) _⟩

set_option maxRecDepth 100000 in
set_option maxHeartbeats 2000000 in
theorem vs_write_else (c d : Array Value) (at_ v : Nat) (w : World) (hdz : d.size = 21) (hone : d.all (·.oneCell') = true) (hczi : c.size = 21)
    (HBAD : Hid (∀ W, Calls Tryd.prog 70 #[.agg c, .int .u32 at_] W fun e w' => e = .returned .nilIface ∧ Below W.heap.size W w'))
    (hT : True)
    (b20 : ((at_ : Int) == 20) = false)
    (b36 : ((at_ : Int) == 36) = false)
    (b32 : ((at_ : Int) == 32) = false)
    (b48 : ((at_ : Int) == 48) = false)
    (b80 : ((at_ : Int) == 80) = false)
    (b100 : ((at_ : Int) == 100) = false)
    (b112 : ((at_ : Int) == 112) = false)
    (HF : Hid (∀ W, Calls Tryd.prog 124 #[.agg c, .int .u32 at_, .int .u32 v] W fun e w' => e = .returned (.agg d) ∧ Below W.heap.size W w')) :
    Calls Tryd.prog 77 #[.agg c, .int .u32 at_, .int .u32 v] w fun e w' => e = .returned (.tuple #[.agg d, .int .i64 (-1), .nilIface]) ∧ Below w.heap.size w w' := by
  have HT := Lib.hid hT
  have HI := Lib.hid (show (Tryd.prog.info? 63).map (·.size) = some d.size by rw [hdz]; kernel_rfl)
  have HIC := Lib.hid (show (Tryd.prog.info? 63).map (·.size) = some c.size by rw [hczi]; kernel_rfl)
  have HO := Lib.hid hone
  have HSZ : Hid (VS.zero.c.size = d.size) := Lib.hid (by rw [hdz]; rfl)
  have HSC : Hid (c.size = d.size) := Lib.hid (by rw [hdz, hczi])
  have H0 := Lib.hid (show ((w.alloc (.cells c 63)).alloc (.cells VS.zero.c 63)).heap[w.heap.size]? = some (.cells c 63 (0, 0)) from heap_alloc2_old _ _ _)
  have HZ0 := Lib.hid (show ((w.alloc (.cells c 63)).alloc (.cells VS.zero.c 63)).heap[w.heap.size + 1]? = some (.cells VS.zero.c 63 (0, 0)) from heap_alloc2_new _ _ _)
  have HBL0 := Lib.hid (((Below.refl w.heap.size w).alloc (Nat.le_refl _) (.cells c 63)).alloc (by simp) (.cells VS.zero.c 63))
  clear hone hT hdz hczi
  go_enter Tryd.func77, Tryd.ntmps77
  go_wp2_with (refine wpList_load_row rfl 63 _ rfl w.heap.size rfl 63 c (0, 0) _ H0.out Tryd.underlying63 rfl HIC.out ?_)
  refine (HBAD.out _).mono ?_
  rintro e w1 ⟨rfl, hb⟩
  have H1 := Lib.hid (below_cells H0.out hb)
  have HZ1 := Lib.hid (below_cells HZ0.out hb)
  have HBL1 := Lib.hid (HBL0.out.trans (hb.mono HBL0.out.size))
  clear hb
  go_wp2_with (refine wpList_load_row rfl 63 _ rfl w.heap.size rfl 63 c (0, 0) _ H1.out Tryd.underlying63 rfl HIC.out ?_)
  refine (HF.out _).mono ?_
  rintro e w2 ⟨rfl, hb⟩
  have H2 := Lib.hid (below_cells H1.out hb)
  have HZ2 := Lib.hid (below_cells HZ1.out hb)
  have HBL2 := Lib.hid (HBL1.out.trans (hb.mono HBL1.out.size))
  have HD := Lib.hid (setRow_heap _ _ _ d _ _ H2.out)
  have HZ3 := Lib.hid (show (w2.setRow w.heap.size d).heap[w.heap.size + 1]? = some (.cells VS.zero.c 63 (0, 0)) from (setRow_other (by omega)).trans HZ2.out)
  clear hb
  go_wp2_with (first | (refine wpList_store_row rfl 63 _ _ rfl w.heap.size d rfl rfl 63 c H2.out HI.out HSC.out HO.out ?_) | (refine wpList_load_row rfl 63 _ rfl w.heap.size rfl 63 d (0, 0) _ HD.out Tryd.underlying63 rfl HI.out ?_) | (refine wpList_store_row rfl 63 _ _ rfl (w.heap.size + 1) d rfl rfl 63 VS.zero.c HZ3.out HI.out HSZ.out HO.out ?_))
  exact bodyPost_ret (v := .tuple #[.agg d, .int .i64 (-1), .nilIface]) (results_cell_tmp2 Tryd.results77 _ _ (w.heap.size + 1) 63 d (0, 0) _ rfl (setRow_heap _ _ _ _ _ _ HZ3.out) Tryd.underlying63 rfl HI.out) rfl ⟨rfl, below_setRow (below_setRow HBL2.out (Nat.le_refl _) _) (by simp) _⟩

end Go.Proofs.YtcbjlpkkebcmjaaDoor
