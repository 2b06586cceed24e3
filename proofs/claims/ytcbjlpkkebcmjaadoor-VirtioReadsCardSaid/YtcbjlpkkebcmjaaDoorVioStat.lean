/-
virtio's status, walked.
No condition.
-/
import Derived.Test.YtcbjlpkkebcmjaaDoorVioWrite
namespace Go.Proofs.YtcbjlpkkebcmjaaDoor
open Go.RowKit

set_option maxRecDepth 100000 in
set_option maxHeartbeats 1000000 in
theorem vs_status_ry (c d : Array Value) (v v1 x y st v3 z : Nat) (w : World) (hc0 : c[0]? = some (.int .u32 st)) (hdz : d.size = 21) (hone : d.all (·.oneCell') = true) (hczi : c.size = 21) (hT : c.setIfInBounds 0 (.int .u32 z) = d) (hv : ((v : Int) == 0) = false)
    (HR : Hid (∀ W, Calls Tryd.prog 73 #[.agg c] W fun e w' => e = .returned (.bool true) ∧ Below W.heap.size W w'))
    (hb1 : bits BinOp.and IntKind.u32 (v : Int) 143 = (v1 : Int))
    (hb3 : bits BinOp.or IntKind.u32 (st : Int) (v1 : Int) = (x : Int))
    (hb4 : bits BinOp.and IntKind.u32 (x : Int) 8 = (y : Int))
    (hy : ((y : Int) == 0) = true)
    (hb5 : bits BinOp.andNot IntKind.u32 (v1 : Int) 4 = (v3 : Int))
    (hb6 : bits BinOp.or IntKind.u32 (st : Int) (v3 : Int) = (z : Int)) :
    Calls Tryd.prog 123 #[.agg c, .int .u32 v] w fun e w' => e = .returned (.agg d) ∧ Below w.heap.size w w' := by
  have HT := Lib.hid hT
  have HI := Lib.hid (show (Tryd.prog.info? 63).map (·.size) = some d.size by rw [hdz]; kernel_rfl)
  have HIC := Lib.hid (show (Tryd.prog.info? 63).map (·.size) = some c.size by rw [hczi]; kernel_rfl)
  have HO := Lib.hid hone
  have HSZ : Hid (VS.zero.c.size = d.size) := Lib.hid (by rw [hdz]; rfl)
  have H0 := Lib.hid (show ((w.alloc (.cells c 63)).alloc (.cells VS.zero.c 63)).heap[w.heap.size]? = some (.cells c 63 (0, 0)) from heap_alloc2_old _ _ _)
  have hz0 : ((w.alloc (.cells c 63)).alloc (.cells VS.zero.c 63)).heap[w.heap.size + 1]? = some (.cells VS.zero.c 63 (0, 0)) := heap_alloc2_new _ _ _
  have hbl0 := ((Below.refl w.heap.size w).alloc (Nat.le_refl _) (.cells c 63)).alloc (by simp) (.cells VS.zero.c 63)
  have HZ0 := Lib.hid hz0
  have HBL0 := Lib.hid hbl0
  have HC0 := Lib.hid hc0
  clear hone hT hz0 hbl0 hc0 hdz hczi
  go_enter Tryd.func123, Tryd.ntmps123
  go_wp2_with (refine wpList_load_row rfl 63 _ rfl w.heap.size rfl 63 c (0, 0) _ H0.out Tryd.underlying63 rfl HIC.out ?_)
  refine (HR.out _).mono ?_
  rintro e w1 ⟨rfl, hb⟩
  have H1 := Lib.hid (below_cells H0.out hb)
  have HZ1 := Lib.hid (below_cells HZ0.out hb)
  have HBL1 := Lib.hid (HBL0.out.trans (hb.mono HBL0.out.size))
  have hf0 := frozen_of_row _ _ 0 _ _ H1.out
  have hk0 := (cell_of_row _ _ 0 _ _ _ H1.out).trans HC0.out
  have HD : Hid ((w1.setCell ⟨w.heap.size, 0, none⟩ (.int .u32 (z : Nat))).heap[w.heap.size]? = some (.cells d 63 (0, 0))) := Lib.hid (by rw [heap_setCell_same _ _ _ _ _ _ H1.out, HT.out])
  have HZ2 : Hid ((w1.setCell ⟨w.heap.size, 0, none⟩ (.int .u32 (z : Nat))).heap[w.heap.size + 1]? = some (.cells VS.zero.c 63 (0, 0))) := Lib.hid (by rw [heap_setCell_other _ _ _ _ (by simp)]; exact HZ1.out)
  clear hb
  go_wp2_with (first | (refine wpList_load_row rfl 63 _ rfl w.heap.size rfl 63 d (0, 0) _ HD.out Tryd.underlying63 rfl HI.out ?_) | (refine wpList_store_row rfl 63 _ _ rfl (w.heap.size + 1) d rfl rfl 63 VS.zero.c HZ2.out HI.out HSZ.out HO.out ?_))
  exact bodyPost_ret (v := .agg d) (results_cell_row rfl _ _ (w.heap.size + 1) 63 d (0, 0) _ rfl (setRow_heap _ _ _ _ _ _ HZ2.out) Tryd.underlying63 rfl HI.out) rfl ⟨rfl, below_setRow (HBL1.out.setCell (Nat.le_refl _) _) (by simp) _⟩

set_option maxRecDepth 100000 in
set_option maxHeartbeats 1000000 in
theorem vs_status_rn (c d : Array Value) (v v1 x y st : Nat) (w : World) (hc0 : c[0]? = some (.int .u32 st)) (hdz : d.size = 21) (hone : d.all (·.oneCell') = true) (hczi : c.size = 21) (hT : c.setIfInBounds 0 (.int .u32 x) = d) (hv : ((v : Int) == 0) = false)
    (HR : Hid (∀ W, Calls Tryd.prog 73 #[.agg c] W fun e w' => e = .returned (.bool true) ∧ Below W.heap.size W w'))
    (hb1 : bits BinOp.and IntKind.u32 (v : Int) 143 = (v1 : Int))
    (hb3 : bits BinOp.or IntKind.u32 (st : Int) (v1 : Int) = (x : Int))
    (hb4 : bits BinOp.and IntKind.u32 (x : Int) 8 = (y : Int))
    (hy : ((y : Int) == 0) = false) :
    Calls Tryd.prog 123 #[.agg c, .int .u32 v] w fun e w' => e = .returned (.agg d) ∧ Below w.heap.size w w' := by
  have HT := Lib.hid hT
  have HI := Lib.hid (show (Tryd.prog.info? 63).map (·.size) = some d.size by rw [hdz]; kernel_rfl)
  have HIC := Lib.hid (show (Tryd.prog.info? 63).map (·.size) = some c.size by rw [hczi]; kernel_rfl)
  have HO := Lib.hid hone
  have HSZ : Hid (VS.zero.c.size = d.size) := Lib.hid (by rw [hdz]; rfl)
  have H0 := Lib.hid (show ((w.alloc (.cells c 63)).alloc (.cells VS.zero.c 63)).heap[w.heap.size]? = some (.cells c 63 (0, 0)) from heap_alloc2_old _ _ _)
  have hz0 : ((w.alloc (.cells c 63)).alloc (.cells VS.zero.c 63)).heap[w.heap.size + 1]? = some (.cells VS.zero.c 63 (0, 0)) := heap_alloc2_new _ _ _
  have hbl0 := ((Below.refl w.heap.size w).alloc (Nat.le_refl _) (.cells c 63)).alloc (by simp) (.cells VS.zero.c 63)
  have HZ0 := Lib.hid hz0
  have HBL0 := Lib.hid hbl0
  have HC0 := Lib.hid hc0
  clear hone hT hz0 hbl0 hc0 hdz hczi
  go_enter Tryd.func123, Tryd.ntmps123
  go_wp2_with (refine wpList_load_row rfl 63 _ rfl w.heap.size rfl 63 c (0, 0) _ H0.out Tryd.underlying63 rfl HIC.out ?_)
  refine (HR.out _).mono ?_
  rintro e w1 ⟨rfl, hb⟩
  have H1 := Lib.hid (below_cells H0.out hb)
  have HZ1 := Lib.hid (below_cells HZ0.out hb)
  have HBL1 := Lib.hid (HBL0.out.trans (hb.mono HBL0.out.size))
  have hf0 := frozen_of_row _ _ 0 _ _ H1.out
  have hk0 := (cell_of_row _ _ 0 _ _ _ H1.out).trans HC0.out
  have HD : Hid ((w1.setCell ⟨w.heap.size, 0, none⟩ (.int .u32 (x : Nat))).heap[w.heap.size]? = some (.cells d 63 (0, 0))) := Lib.hid (by rw [heap_setCell_same _ _ _ _ _ _ H1.out, HT.out])
  have HZ2 : Hid ((w1.setCell ⟨w.heap.size, 0, none⟩ (.int .u32 (x : Nat))).heap[w.heap.size + 1]? = some (.cells VS.zero.c 63 (0, 0))) := Lib.hid (by rw [heap_setCell_other _ _ _ _ (by simp)]; exact HZ1.out)
  clear hb
  go_wp2_with (first | (refine wpList_load_row rfl 63 _ rfl w.heap.size rfl 63 d (0, 0) _ HD.out Tryd.underlying63 rfl HI.out ?_) | (refine wpList_store_row rfl 63 _ _ rfl (w.heap.size + 1) d rfl rfl 63 VS.zero.c HZ2.out HI.out HSZ.out HO.out ?_))
  exact bodyPost_ret (v := .agg d) (results_cell_row rfl _ _ (w.heap.size + 1) 63 d (0, 0) _ rfl (setRow_heap _ _ _ _ _ _ HZ2.out) Tryd.underlying63 rfl HI.out) rfl ⟨rfl, below_setRow (HBL1.out.setCell (Nat.le_refl _) _) (by simp) _⟩

set_option maxRecDepth 100000 in
set_option maxHeartbeats 1000000 in
theorem vs_status_ny (c d : Array Value) (v v1 v2 x y st v3 z : Nat) (w : World) (hc0 : c[0]? = some (.int .u32 st)) (hdz : d.size = 21) (hone : d.all (·.oneCell') = true) (hczi : c.size = 21) (hT : c.setIfInBounds 0 (.int .u32 z) = d) (hv : ((v : Int) == 0) = false)
    (HR : Hid (∀ W, Calls Tryd.prog 73 #[.agg c] W fun e w' => e = .returned (.bool false) ∧ Below W.heap.size W w'))
    (hb1 : bits BinOp.and IntKind.u32 (v : Int) 143 = (v1 : Int))
    (hb2 : bits BinOp.andNot IntKind.u32 (v1 : Int) 8 = (v2 : Int))
    (hb3 : bits BinOp.or IntKind.u32 (st : Int) (v2 : Int) = (x : Int))
    (hb4 : bits BinOp.and IntKind.u32 (x : Int) 8 = (y : Int))
    (hy : ((y : Int) == 0) = true)
    (hb5 : bits BinOp.andNot IntKind.u32 (v2 : Int) 4 = (v3 : Int))
    (hb6 : bits BinOp.or IntKind.u32 (st : Int) (v3 : Int) = (z : Int)) :
    Calls Tryd.prog 123 #[.agg c, .int .u32 v] w fun e w' => e = .returned (.agg d) ∧ Below w.heap.size w w' := by
  have HT := Lib.hid hT
  have HI := Lib.hid (show (Tryd.prog.info? 63).map (·.size) = some d.size by rw [hdz]; kernel_rfl)
  have HIC := Lib.hid (show (Tryd.prog.info? 63).map (·.size) = some c.size by rw [hczi]; kernel_rfl)
  have HO := Lib.hid hone
  have HSZ : Hid (VS.zero.c.size = d.size) := Lib.hid (by rw [hdz]; rfl)
  have H0 := Lib.hid (show ((w.alloc (.cells c 63)).alloc (.cells VS.zero.c 63)).heap[w.heap.size]? = some (.cells c 63 (0, 0)) from heap_alloc2_old _ _ _)
  have hz0 : ((w.alloc (.cells c 63)).alloc (.cells VS.zero.c 63)).heap[w.heap.size + 1]? = some (.cells VS.zero.c 63 (0, 0)) := heap_alloc2_new _ _ _
  have hbl0 := ((Below.refl w.heap.size w).alloc (Nat.le_refl _) (.cells c 63)).alloc (by simp) (.cells VS.zero.c 63)
  have HZ0 := Lib.hid hz0
  have HBL0 := Lib.hid hbl0
  have HC0 := Lib.hid hc0
  clear hone hT hz0 hbl0 hc0 hdz hczi
  go_enter Tryd.func123, Tryd.ntmps123
  go_wp2_with (refine wpList_load_row rfl 63 _ rfl w.heap.size rfl 63 c (0, 0) _ H0.out Tryd.underlying63 rfl HIC.out ?_)
  refine (HR.out _).mono ?_
  rintro e w1 ⟨rfl, hb⟩
  have H1 := Lib.hid (below_cells H0.out hb)
  have HZ1 := Lib.hid (below_cells HZ0.out hb)
  have HBL1 := Lib.hid (HBL0.out.trans (hb.mono HBL0.out.size))
  have hf0 := frozen_of_row _ _ 0 _ _ H1.out
  have hk0 := (cell_of_row _ _ 0 _ _ _ H1.out).trans HC0.out
  have HD : Hid ((w1.setCell ⟨w.heap.size, 0, none⟩ (.int .u32 (z : Nat))).heap[w.heap.size]? = some (.cells d 63 (0, 0))) := Lib.hid (by rw [heap_setCell_same _ _ _ _ _ _ H1.out, HT.out])
  have HZ2 : Hid ((w1.setCell ⟨w.heap.size, 0, none⟩ (.int .u32 (z : Nat))).heap[w.heap.size + 1]? = some (.cells VS.zero.c 63 (0, 0))) := Lib.hid (by rw [heap_setCell_other _ _ _ _ (by simp)]; exact HZ1.out)
  clear hb
  go_wp2_with (first | (refine wpList_load_row rfl 63 _ rfl w.heap.size rfl 63 d (0, 0) _ HD.out Tryd.underlying63 rfl HI.out ?_) | (refine wpList_store_row rfl 63 _ _ rfl (w.heap.size + 1) d rfl rfl 63 VS.zero.c HZ2.out HI.out HSZ.out HO.out ?_))
  exact bodyPost_ret (v := .agg d) (results_cell_row rfl _ _ (w.heap.size + 1) 63 d (0, 0) _ rfl (setRow_heap _ _ _ _ _ _ HZ2.out) Tryd.underlying63 rfl HI.out) rfl ⟨rfl, below_setRow (HBL1.out.setCell (Nat.le_refl _) _) (by simp) _⟩

set_option maxRecDepth 100000 in
set_option maxHeartbeats 1000000 in
theorem vs_status_nn (c d : Array Value) (v v1 v2 x y st : Nat) (w : World) (hc0 : c[0]? = some (.int .u32 st)) (hdz : d.size = 21) (hone : d.all (·.oneCell') = true) (hczi : c.size = 21) (hT : c.setIfInBounds 0 (.int .u32 x) = d) (hv : ((v : Int) == 0) = false)
    (HR : Hid (∀ W, Calls Tryd.prog 73 #[.agg c] W fun e w' => e = .returned (.bool false) ∧ Below W.heap.size W w'))
    (hb1 : bits BinOp.and IntKind.u32 (v : Int) 143 = (v1 : Int))
    (hb2 : bits BinOp.andNot IntKind.u32 (v1 : Int) 8 = (v2 : Int))
    (hb3 : bits BinOp.or IntKind.u32 (st : Int) (v2 : Int) = (x : Int))
    (hb4 : bits BinOp.and IntKind.u32 (x : Int) 8 = (y : Int))
    (hy : ((y : Int) == 0) = false) :
    Calls Tryd.prog 123 #[.agg c, .int .u32 v] w fun e w' => e = .returned (.agg d) ∧ Below w.heap.size w w' := by
  have HT := Lib.hid hT
  have HI := Lib.hid (show (Tryd.prog.info? 63).map (·.size) = some d.size by rw [hdz]; kernel_rfl)
  have HIC := Lib.hid (show (Tryd.prog.info? 63).map (·.size) = some c.size by rw [hczi]; kernel_rfl)
  have HO := Lib.hid hone
  have HSZ : Hid (VS.zero.c.size = d.size) := Lib.hid (by rw [hdz]; rfl)
  have H0 := Lib.hid (show ((w.alloc (.cells c 63)).alloc (.cells VS.zero.c 63)).heap[w.heap.size]? = some (.cells c 63 (0, 0)) from heap_alloc2_old _ _ _)
  have hz0 : ((w.alloc (.cells c 63)).alloc (.cells VS.zero.c 63)).heap[w.heap.size + 1]? = some (.cells VS.zero.c 63 (0, 0)) := heap_alloc2_new _ _ _
  have hbl0 := ((Below.refl w.heap.size w).alloc (Nat.le_refl _) (.cells c 63)).alloc (by simp) (.cells VS.zero.c 63)
  have HZ0 := Lib.hid hz0
  have HBL0 := Lib.hid hbl0
  have HC0 := Lib.hid hc0
  clear hone hT hz0 hbl0 hc0 hdz hczi
  go_enter Tryd.func123, Tryd.ntmps123
  go_wp2_with (refine wpList_load_row rfl 63 _ rfl w.heap.size rfl 63 c (0, 0) _ H0.out Tryd.underlying63 rfl HIC.out ?_)
  refine (HR.out _).mono ?_
  rintro e w1 ⟨rfl, hb⟩
  have H1 := Lib.hid (below_cells H0.out hb)
  have HZ1 := Lib.hid (below_cells HZ0.out hb)
  have HBL1 := Lib.hid (HBL0.out.trans (hb.mono HBL0.out.size))
  have hf0 := frozen_of_row _ _ 0 _ _ H1.out
  have hk0 := (cell_of_row _ _ 0 _ _ _ H1.out).trans HC0.out
  have HD : Hid ((w1.setCell ⟨w.heap.size, 0, none⟩ (.int .u32 (x : Nat))).heap[w.heap.size]? = some (.cells d 63 (0, 0))) := Lib.hid (by rw [heap_setCell_same _ _ _ _ _ _ H1.out, HT.out])
  have HZ2 : Hid ((w1.setCell ⟨w.heap.size, 0, none⟩ (.int .u32 (x : Nat))).heap[w.heap.size + 1]? = some (.cells VS.zero.c 63 (0, 0))) := Lib.hid (by rw [heap_setCell_other _ _ _ _ (by simp)]; exact HZ1.out)
  clear hb
  go_wp2_with (first | (refine wpList_load_row rfl 63 _ rfl w.heap.size rfl 63 d (0, 0) _ HD.out Tryd.underlying63 rfl HI.out ?_) | (refine wpList_store_row rfl 63 _ _ rfl (w.heap.size + 1) d rfl rfl 63 VS.zero.c HZ2.out HI.out HSZ.out HO.out ?_))
  exact bodyPost_ret (v := .agg d) (results_cell_row rfl _ _ (w.heap.size + 1) 63 d (0, 0) _ rfl (setRow_heap _ _ _ _ _ _ HZ2.out) Tryd.underlying63 rfl HI.out) rfl ⟨rfl, below_setRow (HBL1.out.setCell (Nat.le_refl _) _) (by simp) _⟩

set_option maxRecDepth 100000 in
set_option maxHeartbeats 1000000 in
theorem vs_status_0 (c : Array Value) (w : World) :
    Calls Tryd.prog 123 #[.agg c, .int .u32 0] w fun e w' => e = .returned VS.zero.v ∧ Below w.heap.size w w' := by
  have HI := Lib.hid (show (Tryd.prog.info? 63).map (·.size) = some VS.zero.c.size by kernel_rfl)
  have HZ0 := Lib.hid (show ((w.alloc (.cells c 63)).alloc (.cells VS.zero.c 63)).heap[w.heap.size + 1]? = some (.cells VS.zero.c 63 (0, 0)) from heap_alloc2_new _ _ _)
  have hbl0 := ((Below.refl w.heap.size w).alloc (Nat.le_refl _) (.cells c 63)).alloc (by simp) (.cells VS.zero.c 63)
  have HO := Lib.hid VS.zero.c_one
  go_enter Tryd.func123, Tryd.ntmps123
  go_wp2_with (refine wpList_store_row rfl 63 _ _ rfl (w.heap.size + 1) VS.zero.c rfl rfl 63 VS.zero.c HZ0.out HI.out rfl HO.out ?_)
  exact bodyPost_ret (v := .agg VS.zero.c) (results_cell_row rfl _ _ (w.heap.size + 1) 63 VS.zero.c (0, 0) _ rfl (setRow_heap _ _ _ _ _ _ HZ0.out) Tryd.underlying63 rfl HI.out) rfl ⟨rfl, below_setRow hbl0 (by simp) _⟩

def statN (s : VS) (v : Nat) : Nat :=
  if s.right then
    (if (s.st ||| (v &&& 143)) &&& 8 = 0 then s.st ||| (v &&& 143 &&& (4294967295 - 4)) else s.st ||| (v &&& 143))
  else (if (s.st ||| (v &&& 143 &&& (4294967295 - 8))) &&& 8 = 0 then s.st ||| (v &&& 143 &&& (4294967295 - 8) &&& (4294967295 - 4)) else s.st ||| (v &&& 143 &&& (4294967295 - 8)))
def VS.status (s : VS) (v : Nat) : VS := if v = 0 then VS.zero else s.put (statN s v) s.irq
theorem put_row0 (s : VS) (x : Nat) : s.c.setIfInBounds 0 (.int .u32 x) = (s.put x s.irq).c := rfl
theorem u32_and_lit (a m : Nat) (ha : a < 4294967296) (hm : m < 4294967296) (M : Int) (e : M = (m : Int)) : bits BinOp.and IntKind.u32 (a : Int) M = ((a &&& m : Nat) : Int) := by rw [e, u32_and_nat _ _ ha hm]
theorem u32_andNot_lit (a m : Nat) (ha : a < 4294967296) (hm : m < 4294967296) (M : Int) (e : M = (m : Int)) : bits BinOp.andNot IntKind.u32 (a : Int) M = ((a &&& (4294967295 - m) : Nat) : Int) := by rw [e, u32_andNot_nat _ _ ha hm]
theorem and_lt32 {a b : Nat} (h : a < 4294967296) : a &&& b < 4294967296 := Nat.lt_of_le_of_lt Nat.and_le_left h
theorem or_lt32 {a b : Nat} (h : a < 4294967296) (h2 : b < 4294967296) : a ||| b < 4294967296 := Nat.or_lt_two_pow (n := 32) h h2
theorem beq0_true {y : Nat} (h : y = 0) : (((y : Int)) == 0) = true := by rw [h]; rfl
theorem beq0_false {y : Nat} (h : ¬ y = 0) : (((y : Int)) == 0) = false := by simpa using h

theorem vs_status (s : VS) (v : Nat) (hs : s.st < 4294967296) (hv : v < 4294967296) (w : World) :
    Calls Tryd.prog 123 #[s.v, .int .u32 v] w fun e w' => e = .returned (s.status v).v ∧ Below w.heap.size w w' := by
  by_cases h0 : v = 0
  · subst h0
    exact vs_status_0 s.c w
  · have e0 : s.status v = s.put (statN s v) s.irq := if_neg h0
    rw [e0]
    have hvb := beq0_false h0
    have HR := Lib.hid (vs_right s)
    have h1 : v &&& 143 < 4294967296 := and_lt32 hv
    by_cases hr : s.right
    · rw [decide_eq_true hr] at HR
      by_cases hy : (s.st ||| (v &&& 143)) &&& 8 = 0
      · have e1 : statN s v = s.st ||| (v &&& 143 &&& (4294967295 - 4)) := by unfold statN; rw [if_pos hr, if_pos hy]
        rw [e1]
        exact vs_status_ry s.c _ v _ _ _ s.st _ _ w rfl rfl (VS.c_one _) rfl (put_row0 s _) hvb HR (u32_and_lit v 143 hv (by omega) _ rfl) (u32_or_nat _ _ hs h1) (u32_and_lit _ 8 (or_lt32 hs h1) (by omega) _ rfl) (beq0_true hy) (u32_andNot_lit _ 4 h1 (by omega) _ rfl) (u32_or_nat _ _ hs (and_lt32 h1))
      · have e1 : statN s v = s.st ||| (v &&& 143) := by unfold statN; rw [if_pos hr, if_neg hy]
        rw [e1]
        exact vs_status_rn s.c _ v _ _ _ s.st w rfl rfl (VS.c_one _) rfl (put_row0 s _) hvb HR (u32_and_lit v 143 hv (by omega) _ rfl) (u32_or_nat _ _ hs h1) (u32_and_lit _ 8 (or_lt32 hs h1) (by omega) _ rfl) (beq0_false hy)
    · rw [decide_eq_false hr] at HR
      have h2 : v &&& 143 &&& (4294967295 - 8) < 4294967296 := and_lt32 h1
      by_cases hy : (s.st ||| (v &&& 143 &&& (4294967295 - 8))) &&& 8 = 0
      · have e1 : statN s v = s.st ||| (v &&& 143 &&& (4294967295 - 8) &&& (4294967295 - 4)) := by unfold statN; rw [if_neg hr, if_pos hy]
        rw [e1]
        exact vs_status_ny s.c _ v _ _ _ _ s.st _ _ w rfl rfl (VS.c_one _) rfl (put_row0 s _) hvb HR (u32_and_lit v 143 hv (by omega) _ rfl) (u32_andNot_lit _ 8 h1 (by omega) _ rfl) (u32_or_nat _ _ hs h2) (u32_and_lit _ 8 (or_lt32 hs h2) (by omega) _ rfl) (beq0_true hy) (u32_andNot_lit _ 4 h2 (by omega) _ rfl) (u32_or_nat _ _ hs (and_lt32 h2))
      · have e1 : statN s v = s.st ||| (v &&& 143 &&& (4294967295 - 8)) := by unfold statN; rw [if_neg hr, if_neg hy]
        rw [e1]
        exact vs_status_nn s.c _ v _ _ _ _ s.st w rfl rfl (VS.c_one _) rfl (put_row0 s _) hvb HR (u32_and_lit v 143 hv (by omega) _ rfl) (u32_andNot_lit _ 8 h1 (by omega) _ rfl) (u32_or_nat _ _ hs h2) (u32_and_lit _ 8 (or_lt32 hs h2) (by omega) _ rfl) (beq0_false hy)
end Go.Proofs.YtcbjlpkkebcmjaaDoor
