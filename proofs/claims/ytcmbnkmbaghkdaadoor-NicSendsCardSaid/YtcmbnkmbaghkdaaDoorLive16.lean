/-
pinnacelaw16.live, walked: a net device that works.
No condition.
-/
import Derived.Test.YtcmbnkmbaghkdaaDoorNicSendAll
namespace Go.Proofs.YtcmbnkmbaghkdaaDoor
open Go.RowKit
set_option linter.unusedVariables false

def liveQ : VQ := ⟨true, 4, 2147483648, 2147483904, 2147484160, 0, 0⟩
def liveS (one : Bool) : NS := ⟨⟨15, 0, 0, 0, 0, 0, 1, if one then ⟨false, 0, 0, 0, 0, 0, 0⟩ else liveQ, if one then liveQ else ⟨false, 0, 0, 0, 0, 0, 0⟩⟩, true, 0⟩
def liveB : NS := ⟨VS.zero, true, 0⟩
def liveP : NS := ⟨⟨15, 0, 0, 0, 0, 0, 1, ⟨false, 0, 0, 0, 0, 0, 0⟩, ⟨false, 0, 0, 0, 0, 0, 0⟩⟩, true, 0⟩
theorem live_p : rowPut (liveB.c.setIfInBounds 0 (.int .u32 15)) 5 [.int .u32 0, .int .u32 1] = liveP.c := rfl
theorem live_q0 : rowPut liveP.c 7 (#[.bool true, .int .i64 4, .int .u32 2147483648, .int .u32 2147483904, .int .u32 2147484160, .int .u16 0, .int .u16 0] : Array Value).toList = (liveS false).c := row23 (by rw [rowPut_size]; rfl) rfl fun j hj => by
  rw [rowPut_get _ _ _ _ (by show 7 + 7 ≤ 23; omega)]
  match j, hj with
  | 0, _ => rfl
  | 1, _ => rfl
  | 2, _ => rfl
  | 3, _ => rfl
  | 4, _ => rfl
  | 5, _ => rfl
  | 6, _ => rfl
  | 7, _ => rfl
  | 8, _ => rfl
  | 9, _ => rfl
  | 10, _ => rfl
  | 11, _ => rfl
  | 12, _ => rfl
  | 13, _ => rfl
  | 14, _ => rfl
  | 15, _ => rfl
  | 16, _ => rfl
  | 17, _ => rfl
  | 18, _ => rfl
  | 19, _ => rfl
  | 20, _ => rfl
  | 21, _ => rfl
  | 22, _ => rfl
  | j + 23, h => omega
theorem live_q1 : rowPut liveP.c 14 (#[.bool true, .int .i64 4, .int .u32 2147483648, .int .u32 2147483904, .int .u32 2147484160, .int .u16 0, .int .u16 0] : Array Value).toList = (liveS true).c := row23 (by rw [rowPut_size]; rfl) rfl fun j hj => by
  rw [rowPut_get _ _ _ _ (by show 14 + 7 ≤ 23; omega)]
  match j, hj with
  | 0, _ => rfl
  | 1, _ => rfl
  | 2, _ => rfl
  | 3, _ => rfl
  | 4, _ => rfl
  | 5, _ => rfl
  | 6, _ => rfl
  | 7, _ => rfl
  | 8, _ => rfl
  | 9, _ => rfl
  | 10, _ => rfl
  | 11, _ => rfl
  | 12, _ => rfl
  | 13, _ => rfl
  | 14, _ => rfl
  | 15, _ => rfl
  | 16, _ => rfl
  | 17, _ => rfl
  | 18, _ => rfl
  | 19, _ => rfl
  | 20, _ => rfl
  | 21, _ => rfl
  | 22, _ => rfl
  | j + 23, h => omega
set_option maxRecDepth 100000 in
set_option maxHeartbeats 4000000 in
theorem live16_0 (w : World) : Calls Tryd.prog 55 #[.int .i64 0] w fun e w' => e = .returned (.agg (liveS false).c) ∧ Below w.heap.size w w' := by
  obtain ⟨k0, k1, hb0⟩ := two_new w (.cells #[.int .u32 0, .int .u32 0, .int .u32 0, .int .u32 0, .int .u32 0, .int .u32 0, .int .u32 0, .bool false, .int .i64 0, .int .u32 0, .int .u32 0, .int .u32 0, .int .u16 0, .int .u16 0, .bool false, .int .i64 0, .int .u32 0, .int .u32 0, .int .u32 0, .int .u16 0, .int .u16 0, .bool false, .int .u32 0] 75) (.cells #[.int .u32 0, .int .u32 0, .int .u32 0, .int .u32 0, .int .u32 0, .int .u32 0, .int .u32 0, .bool false, .int .i64 0, .int .u32 0, .int .u32 0, .int .u32 0, .int .u16 0, .int .u16 0, .bool false, .int .i64 0, .int .u32 0, .int .u32 0, .int .u32 0, .int .u16 0, .int .u16 0, .bool false, .int .u32 0] 75)
  have K0 := Lib.hid k0
  have K1 := Lib.hid k1
  have HB := Lib.hid hb0
  have HO1 := Lib.hid liveB.c_one
  have HO2 := Lib.hid (liveS false).c_one
  have HO3 := Lib.hid (show (#[.int .u32 0, .int .u32 1] : Array Value).all (·.oneCell') = true by simp [Value.oneCell'])
  have HO4 := Lib.hid (show (#[.bool true, .int .i64 4, .int .u32 2147483648, .int .u32 2147483904, .int .u32 2147484160, .int .u16 0, .int .u16 0] : Array Value).all (·.oneCell') = true by simp [Value.oneCell'])
  clear k0 k1 hb0
  go_enter Tryd.func55, Tryd.ntmps55
  go_wp2_with (first | go_skip | (refine wpList_store_to rfl 75 _ _ rfl (w.heap.size + 1) liveB.c rfl rfl 75 #[.int .u32 0, .int .u32 0, .int .u32 0, .int .u32 0, .int .u32 0, .int .u32 0, .int .u32 0, .bool false, .int .i64 0, .int .u32 0, .int .u32 0, .int .u32 0, .int .u16 0, .int .u16 0, .bool false, .int .i64 0, .int .u32 0, .int .u32 0, .int .u32 0, .int .u16 0, .int .u16 0, .bool false, .int .u32 0] K1.out (nic_size _) rfl HO1.out ?_))
  intro w3 hx hk
  have K3 := Lib.hid hk
  have K4 := Lib.hid (hx.out.heap K0.out (by omega))
  have HB3 := Lib.hid (HB.out.trans (hx.out.below (B := w.heap.size) (fun k hk e => by omega) HB.out.size))
  clear hx hk K0 K1 HB
  have c0 := (cell_of_row _ _ 0 _ _ _ K3.out).trans (rfl : _ = some (.int .u32 0 : Value))
  have f0 := frozen_of_row _ _ 0 _ _ K3.out
  have K5 : Hid ((w3.setCell ⟨w.heap.size + 1, 0, none⟩ (.int .u32 15)).heap[w.heap.size + 1]? = some (.cells (liveB.c.setIfInBounds 0 (.int .u32 15)) 75 (0, 0))) := Lib.hid (set_cells K3.out)
  have K6 : Hid ((w3.setCell ⟨w.heap.size + 1, 0, none⟩ (.int .u32 15)).heap[w.heap.size]? = some (.cells #[.int .u32 0, .int .u32 0, .int .u32 0, .int .u32 0, .int .u32 0, .int .u32 0, .int .u32 0, .bool false, .int .i64 0, .int .u32 0, .int .u32 0, .int .u32 0, .int .u16 0, .int .u16 0, .bool false, .int .i64 0, .int .u32 0, .int .u32 0, .int .u32 0, .int .u16 0, .int .u16 0, .bool false, .int .u32 0] 75 (0, 0))) := Lib.hid ((heap_cell_other (by show w.heap.size ≠ w.heap.size + 1; omega)).trans K4.out)
  have HB5 := Lib.hid (HB3.out.setCell (p := ⟨w.heap.size + 1, 0, none⟩) (by show w.heap.size ≤ w.heap.size + 1; omega) (.int .u32 15))
  go_wp2_with (first | go_skip | (refine wpList_store_mid_to rfl 49 _ _ rfl (w.heap.size + 1) 5 #[.int .u32 0, .int .u32 1] rfl rfl 75 (liveB.c.setIfInBounds 0 (.int .u32 15)) K5.out (by show 5 + 2 ≤ 23; omega) (by kernel_rfl) HO3.out ?_))
  intro w6 hx hk
  have K7 : Hid (w6.heap[w.heap.size + 1]? = some (.cells liveP.c 75 (0, 0))) := Lib.hid (hk.trans (congrArg (fun z => some (Obj.cells z 75 (0, 0))) live_p))
  have K8 := Lib.hid (hx.out.heap K6.out (by omega))
  have HB6 := Lib.hid (HB5.out.trans (hx.out.below (B := w.heap.size) (fun k hk e => by omega) HB5.out.size))
  clear hx hk K5 K6 HB5 c0 f0 K3 K4 HB3
  go_wp2_with (first | go_skip | (refine wpList_store_mid_to rfl 70 _ _ rfl (w.heap.size + 1) 7 #[.bool true, .int .i64 4, .int .u32 2147483648, .int .u32 2147483904, .int .u32 2147484160, .int .u16 0, .int .u16 0] rfl rfl 75 liveP.c K7.out (by show 7 + 7 ≤ 23; omega) (by kernel_rfl) HO4.out ?_))
  intro w7 hx hk
  have K9 : Hid (w7.heap[w.heap.size + 1]? = some (.cells (liveS false).c 75 (0, 0))) := Lib.hid (hk.trans (congrArg (fun z => some (Obj.cells z 75 (0, 0))) live_q0))
  have K10 := Lib.hid (hx.out.heap K8.out (by omega))
  have HB7 := Lib.hid (HB6.out.trans (hx.out.below (B := w.heap.size) (fun k hk e => by omega) HB6.out.size))
  clear hx hk K7 K8 HB6
  go_wp2_with (first | go_skip | (refine wpList_load_row rfl 75 _ rfl (w.heap.size + 1) rfl 75 (liveS false).c (0, 0) _ K9.out Tryd.underlying75 rfl (nic_size _) ?_) | (refine wpList_store_to rfl 75 _ _ rfl w.heap.size (liveS false).c rfl rfl 75 #[.int .u32 0, .int .u32 0, .int .u32 0, .int .u32 0, .int .u32 0, .int .u32 0, .int .u32 0, .bool false, .int .i64 0, .int .u32 0, .int .u32 0, .int .u32 0, .int .u16 0, .int .u16 0, .bool false, .int .i64 0, .int .u32 0, .int .u32 0, .int .u32 0, .int .u16 0, .int .u16 0, .bool false, .int .u32 0] K10.out (nic_size _) rfl HO2.out ?_))
  intro w8 hx hk
  have HB8 := Lib.hid (HB7.out.trans (hx.out.below (B := w.heap.size) (fun k hk e => by omega) HB7.out.size))
  have K11 := Lib.hid hk
  clear hx hk
  go_wp2_with fail
  exact bodyPost_ret (v := .agg (liveS false).c) (results_cell_row rfl _ _ w.heap.size 75 (liveS false).c (0, 0) _ rfl K11.out Tryd.underlying75 rfl (nic_size _)) rfl ⟨rfl, HB8.out⟩
set_option maxRecDepth 100000 in
set_option maxHeartbeats 4000000 in
theorem live16_1 (w : World) : Calls Tryd.prog 55 #[.int .i64 1] w fun e w' => e = .returned (.agg (liveS true).c) ∧ Below w.heap.size w w' := by
  obtain ⟨k0, k1, hb0⟩ := two_new w (.cells #[.int .u32 0, .int .u32 0, .int .u32 0, .int .u32 0, .int .u32 0, .int .u32 0, .int .u32 0, .bool false, .int .i64 0, .int .u32 0, .int .u32 0, .int .u32 0, .int .u16 0, .int .u16 0, .bool false, .int .i64 0, .int .u32 0, .int .u32 0, .int .u32 0, .int .u16 0, .int .u16 0, .bool false, .int .u32 0] 75) (.cells #[.int .u32 0, .int .u32 0, .int .u32 0, .int .u32 0, .int .u32 0, .int .u32 0, .int .u32 0, .bool false, .int .i64 0, .int .u32 0, .int .u32 0, .int .u32 0, .int .u16 0, .int .u16 0, .bool false, .int .i64 0, .int .u32 0, .int .u32 0, .int .u32 0, .int .u16 0, .int .u16 0, .bool false, .int .u32 0] 75)
  have K0 := Lib.hid k0
  have K1 := Lib.hid k1
  have HB := Lib.hid hb0
  have HO1 := Lib.hid liveB.c_one
  have HO2 := Lib.hid (liveS true).c_one
  have HO3 := Lib.hid (show (#[.int .u32 0, .int .u32 1] : Array Value).all (·.oneCell') = true by simp [Value.oneCell'])
  have HO4 := Lib.hid (show (#[.bool true, .int .i64 4, .int .u32 2147483648, .int .u32 2147483904, .int .u32 2147484160, .int .u16 0, .int .u16 0] : Array Value).all (·.oneCell') = true by simp [Value.oneCell'])
  clear k0 k1 hb0
  go_enter Tryd.func55, Tryd.ntmps55
  go_wp2_with (first | go_skip | (refine wpList_store_to rfl 75 _ _ rfl (w.heap.size + 1) liveB.c rfl rfl 75 #[.int .u32 0, .int .u32 0, .int .u32 0, .int .u32 0, .int .u32 0, .int .u32 0, .int .u32 0, .bool false, .int .i64 0, .int .u32 0, .int .u32 0, .int .u32 0, .int .u16 0, .int .u16 0, .bool false, .int .i64 0, .int .u32 0, .int .u32 0, .int .u32 0, .int .u16 0, .int .u16 0, .bool false, .int .u32 0] K1.out (nic_size _) rfl HO1.out ?_))
  intro w3 hx hk
  have K3 := Lib.hid hk
  have K4 := Lib.hid (hx.out.heap K0.out (by omega))
  have HB3 := Lib.hid (HB.out.trans (hx.out.below (B := w.heap.size) (fun k hk e => by omega) HB.out.size))
  clear hx hk K0 K1 HB
  have c0 := (cell_of_row _ _ 0 _ _ _ K3.out).trans (rfl : _ = some (.int .u32 0 : Value))
  have f0 := frozen_of_row _ _ 0 _ _ K3.out
  have K5 : Hid ((w3.setCell ⟨w.heap.size + 1, 0, none⟩ (.int .u32 15)).heap[w.heap.size + 1]? = some (.cells (liveB.c.setIfInBounds 0 (.int .u32 15)) 75 (0, 0))) := Lib.hid (set_cells K3.out)
  have K6 : Hid ((w3.setCell ⟨w.heap.size + 1, 0, none⟩ (.int .u32 15)).heap[w.heap.size]? = some (.cells #[.int .u32 0, .int .u32 0, .int .u32 0, .int .u32 0, .int .u32 0, .int .u32 0, .int .u32 0, .bool false, .int .i64 0, .int .u32 0, .int .u32 0, .int .u32 0, .int .u16 0, .int .u16 0, .bool false, .int .i64 0, .int .u32 0, .int .u32 0, .int .u32 0, .int .u16 0, .int .u16 0, .bool false, .int .u32 0] 75 (0, 0))) := Lib.hid ((heap_cell_other (by show w.heap.size ≠ w.heap.size + 1; omega)).trans K4.out)
  have HB5 := Lib.hid (HB3.out.setCell (p := ⟨w.heap.size + 1, 0, none⟩) (by show w.heap.size ≤ w.heap.size + 1; omega) (.int .u32 15))
  go_wp2_with (first | go_skip | (refine wpList_store_mid_to rfl 49 _ _ rfl (w.heap.size + 1) 5 #[.int .u32 0, .int .u32 1] rfl rfl 75 (liveB.c.setIfInBounds 0 (.int .u32 15)) K5.out (by show 5 + 2 ≤ 23; omega) (by kernel_rfl) HO3.out ?_))
  intro w6 hx hk
  have K7 : Hid (w6.heap[w.heap.size + 1]? = some (.cells liveP.c 75 (0, 0))) := Lib.hid (hk.trans (congrArg (fun z => some (Obj.cells z 75 (0, 0))) live_p))
  have K8 := Lib.hid (hx.out.heap K6.out (by omega))
  have HB6 := Lib.hid (HB5.out.trans (hx.out.below (B := w.heap.size) (fun k hk e => by omega) HB5.out.size))
  clear hx hk K5 K6 HB5 c0 f0 K3 K4 HB3
  go_wp2_with (first | go_skip | (refine wpList_store_mid_to rfl 70 _ _ rfl (w.heap.size + 1) 14 #[.bool true, .int .i64 4, .int .u32 2147483648, .int .u32 2147483904, .int .u32 2147484160, .int .u16 0, .int .u16 0] rfl rfl 75 liveP.c K7.out (by show 14 + 7 ≤ 23; omega) (by kernel_rfl) HO4.out ?_))
  intro w7 hx hk
  have K9 : Hid (w7.heap[w.heap.size + 1]? = some (.cells (liveS true).c 75 (0, 0))) := Lib.hid (hk.trans (congrArg (fun z => some (Obj.cells z 75 (0, 0))) live_q1))
  have K10 := Lib.hid (hx.out.heap K8.out (by omega))
  have HB7 := Lib.hid (HB6.out.trans (hx.out.below (B := w.heap.size) (fun k hk e => by omega) HB6.out.size))
  clear hx hk K7 K8 HB6
  go_wp2_with (first | go_skip | (refine wpList_load_row rfl 75 _ rfl (w.heap.size + 1) rfl 75 (liveS true).c (0, 0) _ K9.out Tryd.underlying75 rfl (nic_size _) ?_) | (refine wpList_store_to rfl 75 _ _ rfl w.heap.size (liveS true).c rfl rfl 75 #[.int .u32 0, .int .u32 0, .int .u32 0, .int .u32 0, .int .u32 0, .int .u32 0, .int .u32 0, .bool false, .int .i64 0, .int .u32 0, .int .u32 0, .int .u32 0, .int .u16 0, .int .u16 0, .bool false, .int .i64 0, .int .u32 0, .int .u32 0, .int .u32 0, .int .u16 0, .int .u16 0, .bool false, .int .u32 0] K10.out (nic_size _) rfl HO2.out ?_))
  intro w8 hx hk
  have HB8 := Lib.hid (HB7.out.trans (hx.out.below (B := w.heap.size) (fun k hk e => by omega) HB7.out.size))
  have K11 := Lib.hid hk
  clear hx hk
  go_wp2_with fail
  exact bodyPost_ret (v := .agg (liveS true).c) (results_cell_row rfl _ _ w.heap.size 75 (liveS true).c (0, 0) _ rfl K11.out Tryd.underlying75 rfl (nic_size _)) rfl ⟨rfl, HB8.out⟩
end Go.Proofs.YtcmbnkmbaghkdaaDoor
