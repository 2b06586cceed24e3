/-
Write of package dma, walked.
No condition.
-/
import Derived.Test.YtcakcfeipfjmpaaDoorDmaBad
namespace Go.Proofs.YtcakcfeipfjmpaaDoor
open Go.RowKit

set_option maxRecDepth 100000 in
set_option maxHeartbeats 4000000 in
theorem dma_wr1 (head at_ steps moved : Nat) (have_ : Bool) (from_ to_ left next : Nat) (asks : Bool) (code : Nat) (w : World) (hc : code ≠ 1) (HC : Hid (∀ W, Calls Tryd.prog 67 #[.agg #[.int .u32 code, .int .u32 head, .int .u32 at_, .int .u32 steps, .int .u32 moved, .bool have_, .int .u32 from_, .int .u32 to_, .int .u32 left, .int .u32 next, .bool asks], .int .u32 0] W fun e w' => e = .returned .nilIface ∧ Below W.heap.size W w')) : Calls Tryd.prog 18 #[.agg #[.int .u32 code, .int .u32 head, .int .u32 at_, .int .u32 steps, .int .u32 moved, .bool have_, .int .u32 from_, .int .u32 to_, .int .u32 left, .int .u32 next, .bool asks], .int .u32 0, .int .u32 1] w fun e w' => e = .returned (.tuple #[.agg #[.int .u32 1, .int .u32 head, .int .u32 head, .int .u32 0, .int .u32 0, .bool false, .int .u32 0, .int .u32 0, .int .u32 0, .int .u32 0, .bool false], .nilIface]) ∧ Below w.heap.size w w' := by
  have b1 : ((code : Int) != 1) = true := by simp; omega
  clear hc
  obtain ⟨k0, k1, hb0⟩ := two_new w (.cells #[.int .u32 code, .int .u32 head, .int .u32 at_, .int .u32 steps, .int .u32 moved, .bool have_, .int .u32 from_, .int .u32 to_, .int .u32 left, .int .u32 next, .bool asks] 33) (.cells #[.int .u32 0, .int .u32 0, .int .u32 0, .int .u32 0, .int .u32 0, .bool false, .int .u32 0, .int .u32 0, .int .u32 0, .int .u32 0, .bool false] 33)
  have K0 := Lib.hid k0
  have K1 := Lib.hid k1
  have HB0 := Lib.hid hb0
  clear k0 k1 hb0
  go_enter Tryd.func18, Tryd.ntmps18
  go_wp2_with fail
  refine (HC.out _).mono ?_
  rintro e w1 ⟨rfl, hb⟩
  have K2 := Lib.hid (keepB K0.out hb)
  clear K0
  have K3 := Lib.hid (keepB K1.out hb)
  clear K1
  have HB4 := Lib.hid (HB0.out.trans (hb.mono HB0.out.size))
  clear HB0
  clear hb
  have c5 := (cell_of_row _ _ 0 _ _ _ K2.out).trans (rfl : _ = some (.int .u32 code : Value))
  have c6 := (cell_of_row _ _ 1 _ _ _ K2.out).trans (rfl : _ = some (.int .u32 head : Value))
  have c7 := (cell_of_row _ _ 4 _ _ _ K2.out).trans (rfl : _ = some (.int .u32 moved : Value))
  have HO8 := Lib.hid (show (#[.int .u32 1, .int .u32 head, .int .u32 head, .int .u32 0, .int .u32 0, .bool false, .int .u32 0, .int .u32 0, .int .u32 0, .int .u32 0, .bool false] : Array Value).all (·.oneCell') = true by simp [Value.oneCell'])
  go_wp2_with (refine wpList_store_to rfl 33 _ _ rfl (w.heap.size + 1) #[.int .u32 1, .int .u32 head, .int .u32 head, .int .u32 0, .int .u32 0, .bool false, .int .u32 0, .int .u32 0, .int .u32 0, .int .u32 0, .bool false] rfl rfl 33 #[.int .u32 0, .int .u32 0, .int .u32 0, .int .u32 0, .int .u32 0, .bool false, .int .u32 0, .int .u32 0, .int .u32 0, .int .u32 0, .bool false] K3.out (by kernel_rfl) rfl HO8.out ?_)
  intro w9 hx10 hkk
  clear c5 c6 c7
  have K11 := Lib.hid (hx10.out.heap K2.out (by omega))
  clear K2
  have K12 := Lib.hid hkk
  clear hkk K3
  have HB13 := Lib.hid (HB4.out.trans (hx10.out.below (B := w.heap.size) (fun k hk e => by omega) HB4.out.size))
  clear HB4 hx10
  go_wp2_with fail
  exact bodyPost_ret (v := .tuple #[.agg #[.int .u32 1, .int .u32 head, .int .u32 head, .int .u32 0, .int .u32 0, .bool false, .int .u32 0, .int .u32 0, .int .u32 0, .int .u32 0, .bool false], .nilIface]) (results_cell_tmp Tryd.results18 _ _ (w.heap.size + 1) 33 #[.int .u32 1, .int .u32 head, .int .u32 head, .int .u32 0, .int .u32 0, .bool false, .int .u32 0, .int .u32 0, .int .u32 0, .int .u32 0, .bool false] (0, 0) _ rfl K12.out Tryd.underlying33 rfl (by kernel_rfl)) rfl ⟨rfl, HB13.out⟩

set_option maxRecDepth 100000 in
set_option maxHeartbeats 4000000 in
theorem dma_wr2 (head at_ steps moved : Nat) (have_ : Bool) (from_ to_ left next : Nat) (asks : Bool) (w : World)  (HC : Hid (∀ W, Calls Tryd.prog 67 #[.agg #[.int .u32 1, .int .u32 head, .int .u32 at_, .int .u32 steps, .int .u32 moved, .bool have_, .int .u32 from_, .int .u32 to_, .int .u32 left, .int .u32 next, .bool asks], .int .u32 0] W fun e w' => e = .returned .nilIface ∧ Below W.heap.size W w')) : Calls Tryd.prog 18 #[.agg #[.int .u32 1, .int .u32 head, .int .u32 at_, .int .u32 steps, .int .u32 moved, .bool have_, .int .u32 from_, .int .u32 to_, .int .u32 left, .int .u32 next, .bool asks], .int .u32 0, .int .u32 1] w fun e w' => e = .returned (.tuple #[.agg #[.int .u32 1, .int .u32 head, .int .u32 at_, .int .u32 steps, .int .u32 moved, .bool have_, .int .u32 from_, .int .u32 to_, .int .u32 left, .int .u32 next, .bool asks], .nilIface]) ∧ Below w.heap.size w w' := by
  obtain ⟨k0, k1, hb0⟩ := two_new w (.cells #[.int .u32 1, .int .u32 head, .int .u32 at_, .int .u32 steps, .int .u32 moved, .bool have_, .int .u32 from_, .int .u32 to_, .int .u32 left, .int .u32 next, .bool asks] 33) (.cells #[.int .u32 0, .int .u32 0, .int .u32 0, .int .u32 0, .int .u32 0, .bool false, .int .u32 0, .int .u32 0, .int .u32 0, .int .u32 0, .bool false] 33)
  have K0 := Lib.hid k0
  have K1 := Lib.hid k1
  have HB0 := Lib.hid hb0
  clear k0 k1 hb0
  go_enter Tryd.func18, Tryd.ntmps18
  go_wp2_with fail
  refine (HC.out _).mono ?_
  rintro e w1 ⟨rfl, hb⟩
  have K2 := Lib.hid (keepB K0.out hb)
  clear K0
  have K3 := Lib.hid (keepB K1.out hb)
  clear K1
  have HB4 := Lib.hid (HB0.out.trans (hb.mono HB0.out.size))
  clear HB0
  clear hb
  have c5 := (cell_of_row _ _ 0 _ _ _ K2.out).trans (rfl : _ = some (.int .u32 1 : Value))
  have c6 := (cell_of_row _ _ 1 _ _ _ K2.out).trans (rfl : _ = some (.int .u32 head : Value))
  have c7 := (cell_of_row _ _ 4 _ _ _ K2.out).trans (rfl : _ = some (.int .u32 moved : Value))
  have HO8 := Lib.hid (show (#[.int .u32 1, .int .u32 head, .int .u32 at_, .int .u32 steps, .int .u32 moved, .bool have_, .int .u32 from_, .int .u32 to_, .int .u32 left, .int .u32 next, .bool asks] : Array Value).all (·.oneCell') = true by simp [Value.oneCell'])
  go_wp2_with (first | (refine wpList_load_row rfl 33 _ rfl (w.heap.size) rfl 33 #[.int .u32 1, .int .u32 head, .int .u32 at_, .int .u32 steps, .int .u32 moved, .bool have_, .int .u32 from_, .int .u32 to_, .int .u32 left, .int .u32 next, .bool asks] (0, 0) _ K2.out Tryd.underlying33 rfl (by kernel_rfl) ?_) | (refine wpList_store_to rfl 33 _ _ rfl (w.heap.size + 1) #[.int .u32 1, .int .u32 head, .int .u32 at_, .int .u32 steps, .int .u32 moved, .bool have_, .int .u32 from_, .int .u32 to_, .int .u32 left, .int .u32 next, .bool asks] rfl rfl 33 #[.int .u32 0, .int .u32 0, .int .u32 0, .int .u32 0, .int .u32 0, .bool false, .int .u32 0, .int .u32 0, .int .u32 0, .int .u32 0, .bool false] K3.out (by kernel_rfl) rfl HO8.out ?_))
  intro w9 hx10 hkk
  clear c5 c6 c7
  have K11 := Lib.hid (hx10.out.heap K2.out (by omega))
  clear K2
  have K12 := Lib.hid hkk
  clear hkk K3
  have HB13 := Lib.hid (HB4.out.trans (hx10.out.below (B := w.heap.size) (fun k hk e => by omega) HB4.out.size))
  clear HB4 hx10
  go_wp2_with fail
  exact bodyPost_ret (v := .tuple #[.agg #[.int .u32 1, .int .u32 head, .int .u32 at_, .int .u32 steps, .int .u32 moved, .bool have_, .int .u32 from_, .int .u32 to_, .int .u32 left, .int .u32 next, .bool asks], .nilIface]) (results_cell_tmp Tryd.results18 _ _ (w.heap.size + 1) 33 #[.int .u32 1, .int .u32 head, .int .u32 at_, .int .u32 steps, .int .u32 moved, .bool have_, .int .u32 from_, .int .u32 to_, .int .u32 left, .int .u32 next, .bool asks] (0, 0) _ rfl K12.out Tryd.underlying33 rfl (by kernel_rfl)) rfl ⟨rfl, HB13.out⟩

set_option maxRecDepth 100000 in
set_option maxHeartbeats 4000000 in
theorem dma_wr3 (head at_ steps moved : Nat) (have_ : Bool) (from_ to_ left next : Nat) (asks : Bool) (code : Nat) (w : World)  (HC : Hid (∀ W, Calls Tryd.prog 67 #[.agg #[.int .u32 code, .int .u32 head, .int .u32 at_, .int .u32 steps, .int .u32 moved, .bool have_, .int .u32 from_, .int .u32 to_, .int .u32 left, .int .u32 next, .bool asks], .int .u32 0] W fun e w' => e = .returned .nilIface ∧ Below W.heap.size W w')) : Calls Tryd.prog 18 #[.agg #[.int .u32 code, .int .u32 head, .int .u32 at_, .int .u32 steps, .int .u32 moved, .bool have_, .int .u32 from_, .int .u32 to_, .int .u32 left, .int .u32 next, .bool asks], .int .u32 0, .int .u32 2] w fun e w' => e = .returned (.tuple #[.agg #[.int .u32 0, .int .u32 head, .int .u32 0, .int .u32 0, .int .u32 moved, .bool false, .int .u32 0, .int .u32 0, .int .u32 0, .int .u32 0, .bool false], .nilIface]) ∧ Below w.heap.size w w' := by
  obtain ⟨k0, k1, hb0⟩ := two_new w (.cells #[.int .u32 code, .int .u32 head, .int .u32 at_, .int .u32 steps, .int .u32 moved, .bool have_, .int .u32 from_, .int .u32 to_, .int .u32 left, .int .u32 next, .bool asks] 33) (.cells #[.int .u32 0, .int .u32 0, .int .u32 0, .int .u32 0, .int .u32 0, .bool false, .int .u32 0, .int .u32 0, .int .u32 0, .int .u32 0, .bool false] 33)
  have K0 := Lib.hid k0
  have K1 := Lib.hid k1
  have HB0 := Lib.hid hb0
  clear k0 k1 hb0
  go_enter Tryd.func18, Tryd.ntmps18
  go_wp2_with fail
  refine (HC.out _).mono ?_
  rintro e w1 ⟨rfl, hb⟩
  have K2 := Lib.hid (keepB K0.out hb)
  clear K0
  have K3 := Lib.hid (keepB K1.out hb)
  clear K1
  have HB4 := Lib.hid (HB0.out.trans (hb.mono HB0.out.size))
  clear HB0
  clear hb
  have c5 := (cell_of_row _ _ 0 _ _ _ K2.out).trans (rfl : _ = some (.int .u32 code : Value))
  have c6 := (cell_of_row _ _ 1 _ _ _ K2.out).trans (rfl : _ = some (.int .u32 head : Value))
  have c7 := (cell_of_row _ _ 4 _ _ _ K2.out).trans (rfl : _ = some (.int .u32 moved : Value))
  have HO8 := Lib.hid (show (#[.int .u32 0, .int .u32 head, .int .u32 0, .int .u32 0, .int .u32 moved, .bool false, .int .u32 0, .int .u32 0, .int .u32 0, .int .u32 0, .bool false] : Array Value).all (·.oneCell') = true by simp [Value.oneCell'])
  go_wp2_with (refine wpList_store_to rfl 33 _ _ rfl (w.heap.size + 1) #[.int .u32 0, .int .u32 head, .int .u32 0, .int .u32 0, .int .u32 moved, .bool false, .int .u32 0, .int .u32 0, .int .u32 0, .int .u32 0, .bool false] rfl rfl 33 #[.int .u32 0, .int .u32 0, .int .u32 0, .int .u32 0, .int .u32 0, .bool false, .int .u32 0, .int .u32 0, .int .u32 0, .int .u32 0, .bool false] K3.out (by kernel_rfl) rfl HO8.out ?_)
  intro w9 hx10 hkk
  clear c5 c6 c7
  have K11 := Lib.hid (hx10.out.heap K2.out (by omega))
  clear K2
  have K12 := Lib.hid hkk
  clear hkk K3
  have HB13 := Lib.hid (HB4.out.trans (hx10.out.below (B := w.heap.size) (fun k hk e => by omega) HB4.out.size))
  clear HB4 hx10
  go_wp2_with fail
  exact bodyPost_ret (v := .tuple #[.agg #[.int .u32 0, .int .u32 head, .int .u32 0, .int .u32 0, .int .u32 moved, .bool false, .int .u32 0, .int .u32 0, .int .u32 0, .int .u32 0, .bool false], .nilIface]) (results_cell_tmp Tryd.results18 _ _ (w.heap.size + 1) 33 #[.int .u32 0, .int .u32 head, .int .u32 0, .int .u32 0, .int .u32 moved, .bool false, .int .u32 0, .int .u32 0, .int .u32 0, .int .u32 0, .bool false] (0, 0) _ rfl K12.out Tryd.underlying33 rfl (by kernel_rfl)) rfl ⟨rfl, HB13.out⟩

set_option maxRecDepth 100000 in
set_option maxHeartbeats 4000000 in
theorem dma_wr4 (head at_ steps moved : Nat) (have_ : Bool) (from_ to_ left next : Nat) (asks : Bool) (code : Nat) (v : Nat) (w : World) (h1 : v ≠ 1) (h2 : v ≠ 2) (HC : Hid (∀ W, Calls Tryd.prog 67 #[.agg #[.int .u32 code, .int .u32 head, .int .u32 at_, .int .u32 steps, .int .u32 moved, .bool have_, .int .u32 from_, .int .u32 to_, .int .u32 left, .int .u32 next, .bool asks], .int .u32 0] W fun e w' => e = .returned .nilIface ∧ Below W.heap.size W w')) : Calls Tryd.prog 18 #[.agg #[.int .u32 code, .int .u32 head, .int .u32 at_, .int .u32 steps, .int .u32 moved, .bool have_, .int .u32 from_, .int .u32 to_, .int .u32 left, .int .u32 next, .bool asks], .int .u32 0, .int .u32 v] w fun e w' => e = .returned (.tuple #[.agg #[.int .u32 code, .int .u32 head, .int .u32 at_, .int .u32 steps, .int .u32 moved, .bool have_, .int .u32 from_, .int .u32 to_, .int .u32 left, .int .u32 next, .bool asks], .nilIface]) ∧ Below w.heap.size w w' := by
  have b1 : ((v : Int) == 1) = false := by simp; omega
  have b2 : ((v : Int) == 2) = false := by simp; omega
  clear h1 h2
  obtain ⟨k0, k1, hb0⟩ := two_new w (.cells #[.int .u32 code, .int .u32 head, .int .u32 at_, .int .u32 steps, .int .u32 moved, .bool have_, .int .u32 from_, .int .u32 to_, .int .u32 left, .int .u32 next, .bool asks] 33) (.cells #[.int .u32 0, .int .u32 0, .int .u32 0, .int .u32 0, .int .u32 0, .bool false, .int .u32 0, .int .u32 0, .int .u32 0, .int .u32 0, .bool false] 33)
  have K0 := Lib.hid k0
  have K1 := Lib.hid k1
  have HB0 := Lib.hid hb0
  clear k0 k1 hb0
  go_enter Tryd.func18, Tryd.ntmps18
  go_wp2_with fail
  refine (HC.out _).mono ?_
  rintro e w1 ⟨rfl, hb⟩
  have K2 := Lib.hid (keepB K0.out hb)
  clear K0
  have K3 := Lib.hid (keepB K1.out hb)
  clear K1
  have HB4 := Lib.hid (HB0.out.trans (hb.mono HB0.out.size))
  clear HB0
  clear hb
  have c5 := (cell_of_row _ _ 0 _ _ _ K2.out).trans (rfl : _ = some (.int .u32 code : Value))
  have c6 := (cell_of_row _ _ 1 _ _ _ K2.out).trans (rfl : _ = some (.int .u32 head : Value))
  have c7 := (cell_of_row _ _ 4 _ _ _ K2.out).trans (rfl : _ = some (.int .u32 moved : Value))
  have HO8 := Lib.hid (show (#[.int .u32 code, .int .u32 head, .int .u32 at_, .int .u32 steps, .int .u32 moved, .bool have_, .int .u32 from_, .int .u32 to_, .int .u32 left, .int .u32 next, .bool asks] : Array Value).all (·.oneCell') = true by simp [Value.oneCell'])
  go_wp2_with (first | (refine wpList_load_row rfl 33 _ rfl (w.heap.size) rfl 33 #[.int .u32 code, .int .u32 head, .int .u32 at_, .int .u32 steps, .int .u32 moved, .bool have_, .int .u32 from_, .int .u32 to_, .int .u32 left, .int .u32 next, .bool asks] (0, 0) _ K2.out Tryd.underlying33 rfl (by kernel_rfl) ?_) | (refine wpList_store_to rfl 33 _ _ rfl (w.heap.size + 1) #[.int .u32 code, .int .u32 head, .int .u32 at_, .int .u32 steps, .int .u32 moved, .bool have_, .int .u32 from_, .int .u32 to_, .int .u32 left, .int .u32 next, .bool asks] rfl rfl 33 #[.int .u32 0, .int .u32 0, .int .u32 0, .int .u32 0, .int .u32 0, .bool false, .int .u32 0, .int .u32 0, .int .u32 0, .int .u32 0, .bool false] K3.out (by kernel_rfl) rfl HO8.out ?_))
  intro w9 hx10 hkk
  clear c5 c6 c7
  have K11 := Lib.hid (hx10.out.heap K2.out (by omega))
  clear K2
  have K12 := Lib.hid hkk
  clear hkk K3
  have HB13 := Lib.hid (HB4.out.trans (hx10.out.below (B := w.heap.size) (fun k hk e => by omega) HB4.out.size))
  clear HB4 hx10
  go_wp2_with fail
  exact bodyPost_ret (v := .tuple #[.agg #[.int .u32 code, .int .u32 head, .int .u32 at_, .int .u32 steps, .int .u32 moved, .bool have_, .int .u32 from_, .int .u32 to_, .int .u32 left, .int .u32 next, .bool asks], .nilIface]) (results_cell_tmp Tryd.results18 _ _ (w.heap.size + 1) 33 #[.int .u32 code, .int .u32 head, .int .u32 at_, .int .u32 steps, .int .u32 moved, .bool have_, .int .u32 from_, .int .u32 to_, .int .u32 left, .int .u32 next, .bool asks] (0, 0) _ rfl K12.out Tryd.underlying33 rfl (by kernel_rfl)) rfl ⟨rfl, HB13.out⟩

set_option maxRecDepth 100000 in
set_option maxHeartbeats 4000000 in
theorem dma_wr5 (head at_ steps moved : Nat) (have_ : Bool) (from_ to_ left next : Nat) (asks : Bool) (code : Nat) (v : Nat) (w : World) (hc : code ≠ 1) (HC : Hid (∀ W, Calls Tryd.prog 67 #[.agg #[.int .u32 code, .int .u32 head, .int .u32 at_, .int .u32 steps, .int .u32 moved, .bool have_, .int .u32 from_, .int .u32 to_, .int .u32 left, .int .u32 next, .bool asks], .int .u32 8] W fun e w' => e = .returned .nilIface ∧ Below W.heap.size W w')) : Calls Tryd.prog 18 #[.agg #[.int .u32 code, .int .u32 head, .int .u32 at_, .int .u32 steps, .int .u32 moved, .bool have_, .int .u32 from_, .int .u32 to_, .int .u32 left, .int .u32 next, .bool asks], .int .u32 8, .int .u32 v] w fun e w' => e = .returned (.tuple #[.agg #[.int .u32 code, .int .u32 v, .int .u32 at_, .int .u32 steps, .int .u32 moved, .bool have_, .int .u32 from_, .int .u32 to_, .int .u32 left, .int .u32 next, .bool asks], .nilIface]) ∧ Below w.heap.size w w' := by
  have b1 : ((code : Int) != 1) = true := by simp; omega
  clear hc
  obtain ⟨k0, k1, hb0⟩ := two_new w (.cells #[.int .u32 code, .int .u32 head, .int .u32 at_, .int .u32 steps, .int .u32 moved, .bool have_, .int .u32 from_, .int .u32 to_, .int .u32 left, .int .u32 next, .bool asks] 33) (.cells #[.int .u32 0, .int .u32 0, .int .u32 0, .int .u32 0, .int .u32 0, .bool false, .int .u32 0, .int .u32 0, .int .u32 0, .int .u32 0, .bool false] 33)
  have K0 := Lib.hid k0
  have K1 := Lib.hid k1
  have HB0 := Lib.hid hb0
  clear k0 k1 hb0
  go_enter Tryd.func18, Tryd.ntmps18
  go_wp2_with fail
  refine (HC.out _).mono ?_
  rintro e w1 ⟨rfl, hb⟩
  have K2 := Lib.hid (keepB K0.out hb)
  clear K0
  have K3 := Lib.hid (keepB K1.out hb)
  clear K1
  have HB4 := Lib.hid (HB0.out.trans (hb.mono HB0.out.size))
  clear HB0
  clear hb
  have c5 := (cell_of_row _ _ 0 _ _ _ K2.out).trans (rfl : _ = some (.int .u32 code : Value))
  have c6 := (cell_of_row _ _ 1 _ _ _ K2.out).trans (rfl : _ = some (.int .u32 head : Value))
  have c7 := (cell_of_row _ _ 4 _ _ _ K2.out).trans (rfl : _ = some (.int .u32 moved : Value))
  clear c5 c6 c7
  have c8 := (cell_of_row _ _ 0 _ _ _ K2.out).trans (rfl : _ = some (.int .u32 code : Value))
  have c9 := (cell_of_row _ _ 1 _ _ _ K2.out).trans (rfl : _ = some (.int .u32 head : Value))
  have c10 := (cell_of_row _ _ 10 _ _ _ K2.out).trans (rfl : _ = some (.bool asks : Value))
  have f11 := fun j => frozen_of_row _ _ j _ _ K2.out
  have hkk : ((w1).setCell ⟨w.heap.size, 1, none⟩ (.int .u32 v)).heap[w.heap.size]? = some (.cells #[.int .u32 code, .int .u32 v, .int .u32 at_, .int .u32 steps, .int .u32 moved, .bool have_, .int .u32 from_, .int .u32 to_, .int .u32 left, .int .u32 next, .bool asks] 33 (0, 0)) := (set_cells (K2.out)).trans rfl
  have hx13 := Lib.hid (show KX (fun k => k = w.heap.size) w1 ((w1).setCell ⟨w.heap.size, 1, none⟩ (.int .u32 v)) from (KX.refl (fun k => k = w.heap.size) w1).setCell (p := ⟨w.heap.size, 1, none⟩) (.inl rfl) _)
  go_upto_region 12 with fail
  generalize ((w1).setCell ⟨w.heap.size, 1, none⟩ (.int .u32 v)) = w12 at hkk hx13 ⊢
  clear c8 c9 c10 f11
  have K14 := Lib.hid (hx13.out.heap K3.out (by omega))
  clear K3
  have K15 := Lib.hid hkk
  clear hkk K2
  have HB16 := Lib.hid (HB4.out.trans (hx13.out.below (B := w.heap.size) (fun k hk e => by omega) HB4.out.size))
  clear HB4 hx13
  have HO17 := Lib.hid (show (#[.int .u32 code, .int .u32 v, .int .u32 at_, .int .u32 steps, .int .u32 moved, .bool have_, .int .u32 from_, .int .u32 to_, .int .u32 left, .int .u32 next, .bool asks] : Array Value).all (·.oneCell') = true by simp [Value.oneCell'])
  go_wp2_with (first | (refine wpList_load_row rfl 33 _ rfl (w.heap.size) rfl 33 #[.int .u32 code, .int .u32 v, .int .u32 at_, .int .u32 steps, .int .u32 moved, .bool have_, .int .u32 from_, .int .u32 to_, .int .u32 left, .int .u32 next, .bool asks] (0, 0) _ K15.out Tryd.underlying33 rfl (by kernel_rfl) ?_) | (refine wpList_store_to rfl 33 _ _ rfl (w.heap.size + 1) #[.int .u32 code, .int .u32 v, .int .u32 at_, .int .u32 steps, .int .u32 moved, .bool have_, .int .u32 from_, .int .u32 to_, .int .u32 left, .int .u32 next, .bool asks] rfl rfl 33 #[.int .u32 0, .int .u32 0, .int .u32 0, .int .u32 0, .int .u32 0, .bool false, .int .u32 0, .int .u32 0, .int .u32 0, .int .u32 0, .bool false] K14.out (by kernel_rfl) rfl HO17.out ?_))
  intro w18 hx19 hkk
  have K20 := Lib.hid (hx19.out.heap K15.out (by omega))
  clear K15
  have K21 := Lib.hid hkk
  clear hkk K14
  have HB22 := Lib.hid (HB16.out.trans (hx19.out.below (B := w.heap.size) (fun k hk e => by omega) HB16.out.size))
  clear HB16 hx19
  go_wp2_with fail
  exact bodyPost_ret (v := .tuple #[.agg #[.int .u32 code, .int .u32 v, .int .u32 at_, .int .u32 steps, .int .u32 moved, .bool have_, .int .u32 from_, .int .u32 to_, .int .u32 left, .int .u32 next, .bool asks], .nilIface]) (results_cell_tmp Tryd.results18 _ _ (w.heap.size + 1) 33 #[.int .u32 code, .int .u32 v, .int .u32 at_, .int .u32 steps, .int .u32 moved, .bool have_, .int .u32 from_, .int .u32 to_, .int .u32 left, .int .u32 next, .bool asks] (0, 0) _ rfl K21.out Tryd.underlying33 rfl (by kernel_rfl)) rfl ⟨rfl, HB22.out⟩

set_option maxRecDepth 100000 in
set_option maxHeartbeats 4000000 in
theorem dma_wr6 (head at_ steps moved : Nat) (have_ : Bool) (from_ to_ left next : Nat) (asks : Bool) (v : Nat) (w : World)  (HC : Hid (∀ W, Calls Tryd.prog 67 #[.agg #[.int .u32 1, .int .u32 head, .int .u32 at_, .int .u32 steps, .int .u32 moved, .bool have_, .int .u32 from_, .int .u32 to_, .int .u32 left, .int .u32 next, .bool asks], .int .u32 8] W fun e w' => e = .returned .nilIface ∧ Below W.heap.size W w')) : Calls Tryd.prog 18 #[.agg #[.int .u32 1, .int .u32 head, .int .u32 at_, .int .u32 steps, .int .u32 moved, .bool have_, .int .u32 from_, .int .u32 to_, .int .u32 left, .int .u32 next, .bool asks], .int .u32 8, .int .u32 v] w fun e w' => e = .returned (.tuple #[.agg #[.int .u32 1, .int .u32 head, .int .u32 at_, .int .u32 steps, .int .u32 moved, .bool have_, .int .u32 from_, .int .u32 to_, .int .u32 left, .int .u32 next, .bool asks], .nilIface]) ∧ Below w.heap.size w w' := by
  obtain ⟨k0, k1, hb0⟩ := two_new w (.cells #[.int .u32 1, .int .u32 head, .int .u32 at_, .int .u32 steps, .int .u32 moved, .bool have_, .int .u32 from_, .int .u32 to_, .int .u32 left, .int .u32 next, .bool asks] 33) (.cells #[.int .u32 0, .int .u32 0, .int .u32 0, .int .u32 0, .int .u32 0, .bool false, .int .u32 0, .int .u32 0, .int .u32 0, .int .u32 0, .bool false] 33)
  have K0 := Lib.hid k0
  have K1 := Lib.hid k1
  have HB0 := Lib.hid hb0
  clear k0 k1 hb0
  go_enter Tryd.func18, Tryd.ntmps18
  go_wp2_with fail
  refine (HC.out _).mono ?_
  rintro e w1 ⟨rfl, hb⟩
  have K2 := Lib.hid (keepB K0.out hb)
  clear K0
  have K3 := Lib.hid (keepB K1.out hb)
  clear K1
  have HB4 := Lib.hid (HB0.out.trans (hb.mono HB0.out.size))
  clear HB0
  clear hb
  have c5 := (cell_of_row _ _ 0 _ _ _ K2.out).trans (rfl : _ = some (.int .u32 1 : Value))
  have c6 := (cell_of_row _ _ 1 _ _ _ K2.out).trans (rfl : _ = some (.int .u32 head : Value))
  have c7 := (cell_of_row _ _ 4 _ _ _ K2.out).trans (rfl : _ = some (.int .u32 moved : Value))
  have HO8 := Lib.hid (show (#[.int .u32 1, .int .u32 head, .int .u32 at_, .int .u32 steps, .int .u32 moved, .bool have_, .int .u32 from_, .int .u32 to_, .int .u32 left, .int .u32 next, .bool asks] : Array Value).all (·.oneCell') = true by simp [Value.oneCell'])
  go_wp2_with (first | (refine wpList_load_row rfl 33 _ rfl (w.heap.size) rfl 33 #[.int .u32 1, .int .u32 head, .int .u32 at_, .int .u32 steps, .int .u32 moved, .bool have_, .int .u32 from_, .int .u32 to_, .int .u32 left, .int .u32 next, .bool asks] (0, 0) _ K2.out Tryd.underlying33 rfl (by kernel_rfl) ?_) | (refine wpList_store_to rfl 33 _ _ rfl (w.heap.size + 1) #[.int .u32 1, .int .u32 head, .int .u32 at_, .int .u32 steps, .int .u32 moved, .bool have_, .int .u32 from_, .int .u32 to_, .int .u32 left, .int .u32 next, .bool asks] rfl rfl 33 #[.int .u32 0, .int .u32 0, .int .u32 0, .int .u32 0, .int .u32 0, .bool false, .int .u32 0, .int .u32 0, .int .u32 0, .int .u32 0, .bool false] K3.out (by kernel_rfl) rfl HO8.out ?_))
  intro w9 hx10 hkk
  clear c5 c6 c7
  have K11 := Lib.hid (hx10.out.heap K2.out (by omega))
  clear K2
  have K12 := Lib.hid hkk
  clear hkk K3
  have HB13 := Lib.hid (HB4.out.trans (hx10.out.below (B := w.heap.size) (fun k hk e => by omega) HB4.out.size))
  clear HB4 hx10
  go_wp2_with fail
  exact bodyPost_ret (v := .tuple #[.agg #[.int .u32 1, .int .u32 head, .int .u32 at_, .int .u32 steps, .int .u32 moved, .bool have_, .int .u32 from_, .int .u32 to_, .int .u32 left, .int .u32 next, .bool asks], .nilIface]) (results_cell_tmp Tryd.results18 _ _ (w.heap.size + 1) 33 #[.int .u32 1, .int .u32 head, .int .u32 at_, .int .u32 steps, .int .u32 moved, .bool have_, .int .u32 from_, .int .u32 to_, .int .u32 left, .int .u32 next, .bool asks] (0, 0) _ rfl K12.out Tryd.underlying33 rfl (by kernel_rfl)) rfl ⟨rfl, HB13.out⟩

set_option maxRecDepth 100000 in
set_option maxHeartbeats 4000000 in
theorem dma_wr7 (head at_ steps moved : Nat) (have_ : Bool) (from_ to_ left next : Nat) (asks : Bool) (code : Nat) (w : World)  (HC : Hid (∀ W, Calls Tryd.prog 67 #[.agg #[.int .u32 code, .int .u32 head, .int .u32 at_, .int .u32 steps, .int .u32 moved, .bool have_, .int .u32 from_, .int .u32 to_, .int .u32 left, .int .u32 next, .bool asks], .int .u32 16] W fun e w' => e = .returned .nilIface ∧ Below W.heap.size W w')) : Calls Tryd.prog 18 #[.agg #[.int .u32 code, .int .u32 head, .int .u32 at_, .int .u32 steps, .int .u32 moved, .bool have_, .int .u32 from_, .int .u32 to_, .int .u32 left, .int .u32 next, .bool asks], .int .u32 16, .int .u32 1] w fun e w' => e = .returned (.tuple #[.agg #[.int .u32 code, .int .u32 head, .int .u32 at_, .int .u32 steps, .int .u32 moved, .bool have_, .int .u32 from_, .int .u32 to_, .int .u32 left, .int .u32 next, .bool false], .nilIface]) ∧ Below w.heap.size w w' := by
  obtain ⟨k0, k1, hb0⟩ := two_new w (.cells #[.int .u32 code, .int .u32 head, .int .u32 at_, .int .u32 steps, .int .u32 moved, .bool have_, .int .u32 from_, .int .u32 to_, .int .u32 left, .int .u32 next, .bool asks] 33) (.cells #[.int .u32 0, .int .u32 0, .int .u32 0, .int .u32 0, .int .u32 0, .bool false, .int .u32 0, .int .u32 0, .int .u32 0, .int .u32 0, .bool false] 33)
  have K0 := Lib.hid k0
  have K1 := Lib.hid k1
  have HB0 := Lib.hid hb0
  clear k0 k1 hb0
  go_enter Tryd.func18, Tryd.ntmps18
  go_wp2_with fail
  refine (HC.out _).mono ?_
  rintro e w1 ⟨rfl, hb⟩
  have K2 := Lib.hid (keepB K0.out hb)
  clear K0
  have K3 := Lib.hid (keepB K1.out hb)
  clear K1
  have HB4 := Lib.hid (HB0.out.trans (hb.mono HB0.out.size))
  clear HB0
  clear hb
  have c5 := (cell_of_row _ _ 0 _ _ _ K2.out).trans (rfl : _ = some (.int .u32 code : Value))
  have c6 := (cell_of_row _ _ 1 _ _ _ K2.out).trans (rfl : _ = some (.int .u32 head : Value))
  have c7 := (cell_of_row _ _ 4 _ _ _ K2.out).trans (rfl : _ = some (.int .u32 moved : Value))
  clear c5 c6 c7
  have c8 := (cell_of_row _ _ 0 _ _ _ K2.out).trans (rfl : _ = some (.int .u32 code : Value))
  have c9 := (cell_of_row _ _ 1 _ _ _ K2.out).trans (rfl : _ = some (.int .u32 head : Value))
  have c10 := (cell_of_row _ _ 10 _ _ _ K2.out).trans (rfl : _ = some (.bool asks : Value))
  have f11 := fun j => frozen_of_row _ _ j _ _ K2.out
  have hkk : ((w1).setCell ⟨w.heap.size, 10, none⟩ (.bool false)).heap[w.heap.size]? = some (.cells #[.int .u32 code, .int .u32 head, .int .u32 at_, .int .u32 steps, .int .u32 moved, .bool have_, .int .u32 from_, .int .u32 to_, .int .u32 left, .int .u32 next, .bool false] 33 (0, 0)) := (set_cells (K2.out)).trans rfl
  have hx13 := Lib.hid (show KX (fun k => k = w.heap.size) w1 ((w1).setCell ⟨w.heap.size, 10, none⟩ (.bool false)) from (KX.refl (fun k => k = w.heap.size) w1).setCell (p := ⟨w.heap.size, 10, none⟩) (.inl rfl) _)
  go_upto_region 12 with fail
  generalize ((w1).setCell ⟨w.heap.size, 10, none⟩ (.bool false)) = w12 at hkk hx13 ⊢
  clear c8 c9 c10 f11
  have K14 := Lib.hid (hx13.out.heap K3.out (by omega))
  clear K3
  have K15 := Lib.hid hkk
  clear hkk K2
  have HB16 := Lib.hid (HB4.out.trans (hx13.out.below (B := w.heap.size) (fun k hk e => by omega) HB4.out.size))
  clear HB4 hx13
  have HO17 := Lib.hid (show (#[.int .u32 code, .int .u32 head, .int .u32 at_, .int .u32 steps, .int .u32 moved, .bool have_, .int .u32 from_, .int .u32 to_, .int .u32 left, .int .u32 next, .bool false] : Array Value).all (·.oneCell') = true by simp [Value.oneCell'])
  go_wp2_with (first | (refine wpList_load_row rfl 33 _ rfl (w.heap.size) rfl 33 #[.int .u32 code, .int .u32 head, .int .u32 at_, .int .u32 steps, .int .u32 moved, .bool have_, .int .u32 from_, .int .u32 to_, .int .u32 left, .int .u32 next, .bool false] (0, 0) _ K15.out Tryd.underlying33 rfl (by kernel_rfl) ?_) | (refine wpList_store_to rfl 33 _ _ rfl (w.heap.size + 1) #[.int .u32 code, .int .u32 head, .int .u32 at_, .int .u32 steps, .int .u32 moved, .bool have_, .int .u32 from_, .int .u32 to_, .int .u32 left, .int .u32 next, .bool false] rfl rfl 33 #[.int .u32 0, .int .u32 0, .int .u32 0, .int .u32 0, .int .u32 0, .bool false, .int .u32 0, .int .u32 0, .int .u32 0, .int .u32 0, .bool false] K14.out (by kernel_rfl) rfl HO17.out ?_))
  intro w18 hx19 hkk
  have K20 := Lib.hid (hx19.out.heap K15.out (by omega))
  clear K15
  have K21 := Lib.hid hkk
  clear hkk K14
  have HB22 := Lib.hid (HB16.out.trans (hx19.out.below (B := w.heap.size) (fun k hk e => by omega) HB16.out.size))
  clear HB16 hx19
  go_wp2_with fail
  exact bodyPost_ret (v := .tuple #[.agg #[.int .u32 code, .int .u32 head, .int .u32 at_, .int .u32 steps, .int .u32 moved, .bool have_, .int .u32 from_, .int .u32 to_, .int .u32 left, .int .u32 next, .bool false], .nilIface]) (results_cell_tmp Tryd.results18 _ _ (w.heap.size + 1) 33 #[.int .u32 code, .int .u32 head, .int .u32 at_, .int .u32 steps, .int .u32 moved, .bool have_, .int .u32 from_, .int .u32 to_, .int .u32 left, .int .u32 next, .bool false] (0, 0) _ rfl K21.out Tryd.underlying33 rfl (by kernel_rfl)) rfl ⟨rfl, HB22.out⟩

set_option maxRecDepth 100000 in
set_option maxHeartbeats 4000000 in
theorem dma_wr8 (head at_ steps moved : Nat) (have_ : Bool) (from_ to_ left next : Nat) (asks : Bool) (code : Nat) (v : Nat) (w : World) (h1 : v ≠ 1) (HC : Hid (∀ W, Calls Tryd.prog 67 #[.agg #[.int .u32 code, .int .u32 head, .int .u32 at_, .int .u32 steps, .int .u32 moved, .bool have_, .int .u32 from_, .int .u32 to_, .int .u32 left, .int .u32 next, .bool asks], .int .u32 16] W fun e w' => e = .returned .nilIface ∧ Below W.heap.size W w')) : Calls Tryd.prog 18 #[.agg #[.int .u32 code, .int .u32 head, .int .u32 at_, .int .u32 steps, .int .u32 moved, .bool have_, .int .u32 from_, .int .u32 to_, .int .u32 left, .int .u32 next, .bool asks], .int .u32 16, .int .u32 v] w fun e w' => e = .returned (.tuple #[.agg #[.int .u32 code, .int .u32 head, .int .u32 at_, .int .u32 steps, .int .u32 moved, .bool have_, .int .u32 from_, .int .u32 to_, .int .u32 left, .int .u32 next, .bool asks], .nilIface]) ∧ Below w.heap.size w w' := by
  have b1 : ((v : Int) == 1) = false := by simp; omega
  clear h1
  obtain ⟨k0, k1, hb0⟩ := two_new w (.cells #[.int .u32 code, .int .u32 head, .int .u32 at_, .int .u32 steps, .int .u32 moved, .bool have_, .int .u32 from_, .int .u32 to_, .int .u32 left, .int .u32 next, .bool asks] 33) (.cells #[.int .u32 0, .int .u32 0, .int .u32 0, .int .u32 0, .int .u32 0, .bool false, .int .u32 0, .int .u32 0, .int .u32 0, .int .u32 0, .bool false] 33)
  have K0 := Lib.hid k0
  have K1 := Lib.hid k1
  have HB0 := Lib.hid hb0
  clear k0 k1 hb0
  go_enter Tryd.func18, Tryd.ntmps18
  go_wp2_with fail
  refine (HC.out _).mono ?_
  rintro e w1 ⟨rfl, hb⟩
  have K2 := Lib.hid (keepB K0.out hb)
  clear K0
  have K3 := Lib.hid (keepB K1.out hb)
  clear K1
  have HB4 := Lib.hid (HB0.out.trans (hb.mono HB0.out.size))
  clear HB0
  clear hb
  have c5 := (cell_of_row _ _ 0 _ _ _ K2.out).trans (rfl : _ = some (.int .u32 code : Value))
  have c6 := (cell_of_row _ _ 1 _ _ _ K2.out).trans (rfl : _ = some (.int .u32 head : Value))
  have c7 := (cell_of_row _ _ 4 _ _ _ K2.out).trans (rfl : _ = some (.int .u32 moved : Value))
  have HO8 := Lib.hid (show (#[.int .u32 code, .int .u32 head, .int .u32 at_, .int .u32 steps, .int .u32 moved, .bool have_, .int .u32 from_, .int .u32 to_, .int .u32 left, .int .u32 next, .bool asks] : Array Value).all (·.oneCell') = true by simp [Value.oneCell'])
  go_wp2_with (first | (refine wpList_load_row rfl 33 _ rfl (w.heap.size) rfl 33 #[.int .u32 code, .int .u32 head, .int .u32 at_, .int .u32 steps, .int .u32 moved, .bool have_, .int .u32 from_, .int .u32 to_, .int .u32 left, .int .u32 next, .bool asks] (0, 0) _ K2.out Tryd.underlying33 rfl (by kernel_rfl) ?_) | (refine wpList_store_to rfl 33 _ _ rfl (w.heap.size + 1) #[.int .u32 code, .int .u32 head, .int .u32 at_, .int .u32 steps, .int .u32 moved, .bool have_, .int .u32 from_, .int .u32 to_, .int .u32 left, .int .u32 next, .bool asks] rfl rfl 33 #[.int .u32 0, .int .u32 0, .int .u32 0, .int .u32 0, .int .u32 0, .bool false, .int .u32 0, .int .u32 0, .int .u32 0, .int .u32 0, .bool false] K3.out (by kernel_rfl) rfl HO8.out ?_))
  intro w9 hx10 hkk
  clear c5 c6 c7
  have K11 := Lib.hid (hx10.out.heap K2.out (by omega))
  clear K2
  have K12 := Lib.hid hkk
  clear hkk K3
  have HB13 := Lib.hid (HB4.out.trans (hx10.out.below (B := w.heap.size) (fun k hk e => by omega) HB4.out.size))
  clear HB4 hx10
  go_wp2_with fail
  exact bodyPost_ret (v := .tuple #[.agg #[.int .u32 code, .int .u32 head, .int .u32 at_, .int .u32 steps, .int .u32 moved, .bool have_, .int .u32 from_, .int .u32 to_, .int .u32 left, .int .u32 next, .bool asks], .nilIface]) (results_cell_tmp Tryd.results18 _ _ (w.heap.size + 1) 33 #[.int .u32 code, .int .u32 head, .int .u32 at_, .int .u32 steps, .int .u32 moved, .bool have_, .int .u32 from_, .int .u32 to_, .int .u32 left, .int .u32 next, .bool asks] (0, 0) _ rfl K12.out Tryd.underlying33 rfl (by kernel_rfl)) rfl ⟨rfl, HB13.out⟩

set_option maxRecDepth 100000 in
set_option maxHeartbeats 4000000 in
theorem dma_wr9 (head at_ steps moved : Nat) (have_ : Bool) (from_ to_ left next : Nat) (asks : Bool) (code : Nat) (at_x : Nat) (v : Nat) (w : World) (h0 : at_x ≠ 0) (h8 : at_x ≠ 8) (h16 : at_x ≠ 16) (HC : Hid (∀ W, Calls Tryd.prog 67 #[.agg #[.int .u32 code, .int .u32 head, .int .u32 at_, .int .u32 steps, .int .u32 moved, .bool have_, .int .u32 from_, .int .u32 to_, .int .u32 left, .int .u32 next, .bool asks], .int .u32 at_x] W fun e w' => e = .returned .nilIface ∧ Below W.heap.size W w')) : Calls Tryd.prog 18 #[.agg #[.int .u32 code, .int .u32 head, .int .u32 at_, .int .u32 steps, .int .u32 moved, .bool have_, .int .u32 from_, .int .u32 to_, .int .u32 left, .int .u32 next, .bool asks], .int .u32 at_x, .int .u32 v] w fun e w' => e = .returned (.tuple #[.agg #[.int .u32 code, .int .u32 head, .int .u32 at_, .int .u32 steps, .int .u32 moved, .bool have_, .int .u32 from_, .int .u32 to_, .int .u32 left, .int .u32 next, .bool asks], .nilIface]) ∧ Below w.heap.size w w' := by
  have b1 : ((at_x : Int) == 0) = false := by simp; omega
  have b2 : ((at_x : Int) == 8) = false := by simp; omega
  have b3 : ((at_x : Int) == 16) = false := by simp; omega
  clear h0 h8 h16
  obtain ⟨k0, k1, hb0⟩ := two_new w (.cells #[.int .u32 code, .int .u32 head, .int .u32 at_, .int .u32 steps, .int .u32 moved, .bool have_, .int .u32 from_, .int .u32 to_, .int .u32 left, .int .u32 next, .bool asks] 33) (.cells #[.int .u32 0, .int .u32 0, .int .u32 0, .int .u32 0, .int .u32 0, .bool false, .int .u32 0, .int .u32 0, .int .u32 0, .int .u32 0, .bool false] 33)
  have K0 := Lib.hid k0
  have K1 := Lib.hid k1
  have HB0 := Lib.hid hb0
  clear k0 k1 hb0
  go_enter Tryd.func18, Tryd.ntmps18
  go_wp2_with fail
  refine (HC.out _).mono ?_
  rintro e w1 ⟨rfl, hb⟩
  have K2 := Lib.hid (keepB K0.out hb)
  clear K0
  have K3 := Lib.hid (keepB K1.out hb)
  clear K1
  have HB4 := Lib.hid (HB0.out.trans (hb.mono HB0.out.size))
  clear HB0
  clear hb
  have c5 := (cell_of_row _ _ 0 _ _ _ K2.out).trans (rfl : _ = some (.int .u32 code : Value))
  have c6 := (cell_of_row _ _ 1 _ _ _ K2.out).trans (rfl : _ = some (.int .u32 head : Value))
  have c7 := (cell_of_row _ _ 4 _ _ _ K2.out).trans (rfl : _ = some (.int .u32 moved : Value))
  have HO8 := Lib.hid (show (#[.int .u32 code, .int .u32 head, .int .u32 at_, .int .u32 steps, .int .u32 moved, .bool have_, .int .u32 from_, .int .u32 to_, .int .u32 left, .int .u32 next, .bool asks] : Array Value).all (·.oneCell') = true by simp [Value.oneCell'])
  go_wp2_with (first | (refine wpList_load_row rfl 33 _ rfl (w.heap.size) rfl 33 #[.int .u32 code, .int .u32 head, .int .u32 at_, .int .u32 steps, .int .u32 moved, .bool have_, .int .u32 from_, .int .u32 to_, .int .u32 left, .int .u32 next, .bool asks] (0, 0) _ K2.out Tryd.underlying33 rfl (by kernel_rfl) ?_) | (refine wpList_store_to rfl 33 _ _ rfl (w.heap.size + 1) #[.int .u32 code, .int .u32 head, .int .u32 at_, .int .u32 steps, .int .u32 moved, .bool have_, .int .u32 from_, .int .u32 to_, .int .u32 left, .int .u32 next, .bool asks] rfl rfl 33 #[.int .u32 0, .int .u32 0, .int .u32 0, .int .u32 0, .int .u32 0, .bool false, .int .u32 0, .int .u32 0, .int .u32 0, .int .u32 0, .bool false] K3.out (by kernel_rfl) rfl HO8.out ?_))
  intro w9 hx10 hkk
  clear c5 c6 c7
  have K11 := Lib.hid (hx10.out.heap K2.out (by omega))
  clear K2
  have K12 := Lib.hid hkk
  clear hkk K3
  have HB13 := Lib.hid (HB4.out.trans (hx10.out.below (B := w.heap.size) (fun k hk e => by omega) HB4.out.size))
  clear HB4 hx10
  go_wp2_with fail
  exact bodyPost_ret (v := .tuple #[.agg #[.int .u32 code, .int .u32 head, .int .u32 at_, .int .u32 steps, .int .u32 moved, .bool have_, .int .u32 from_, .int .u32 to_, .int .u32 left, .int .u32 next, .bool asks], .nilIface]) (results_cell_tmp Tryd.results18 _ _ (w.heap.size + 1) 33 #[.int .u32 code, .int .u32 head, .int .u32 at_, .int .u32 steps, .int .u32 moved, .bool have_, .int .u32 from_, .int .u32 to_, .int .u32 left, .int .u32 next, .bool asks] (0, 0) _ rfl K12.out Tryd.underlying33 rfl (by kernel_rfl)) rfl ⟨rfl, HB13.out⟩

set_option maxRecDepth 100000 in
set_option maxHeartbeats 4000000 in
theorem dma_wr_bad1 (head at_ steps moved : Nat) (have_ : Bool) (from_ to_ left next : Nat) (asks : Bool) (code at_x v : Nat) (w : World) (HC : Hid (∀ W, Calls Tryd.prog 67 #[.agg #[.int .u32 code, .int .u32 head, .int .u32 at_, .int .u32 steps, .int .u32 moved, .bool have_, .int .u32 from_, .int .u32 to_, .int .u32 left, .int .u32 next, .bool asks], .int .u32 at_x] W fun e w' => e = .returned (errV 1) ∧ Below W.heap.size W w')) : Calls Tryd.prog 18 #[.agg #[.int .u32 code, .int .u32 head, .int .u32 at_, .int .u32 steps, .int .u32 moved, .bool have_, .int .u32 from_, .int .u32 to_, .int .u32 left, .int .u32 next, .bool asks], .int .u32 at_x, .int .u32 v] w fun e w' => e = .returned (.tuple #[.agg #[.int .u32 0, .int .u32 0, .int .u32 0, .int .u32 0, .int .u32 0, .bool false, .int .u32 0, .int .u32 0, .int .u32 0, .int .u32 0, .bool false], errV 1]) ∧ Below w.heap.size w w' := by
  rw [errV_1] at HC ⊢
  obtain ⟨k0, k1, hb0⟩ := two_new w (.cells #[.int .u32 code, .int .u32 head, .int .u32 at_, .int .u32 steps, .int .u32 moved, .bool have_, .int .u32 from_, .int .u32 to_, .int .u32 left, .int .u32 next, .bool asks] 33) (.cells #[.int .u32 0, .int .u32 0, .int .u32 0, .int .u32 0, .int .u32 0, .bool false, .int .u32 0, .int .u32 0, .int .u32 0, .int .u32 0, .bool false] 33)
  have K0 := Lib.hid k0
  have K1 := Lib.hid k1
  have HB0 := Lib.hid hb0
  clear k0 k1 hb0
  go_enter Tryd.func18, Tryd.ntmps18
  go_wp2_with fail
  refine (HC.out _).mono ?_
  rintro e w1 ⟨rfl, hb⟩
  have K2 := Lib.hid (keepB K0.out hb)
  clear K0
  have K3 := Lib.hid (keepB K1.out hb)
  clear K1
  have HB4 := Lib.hid (HB0.out.trans (hb.mono HB0.out.size))
  clear HB0
  clear hb
  have HO5 := Lib.hid (show (#[.int .u32 0, .int .u32 0, .int .u32 0, .int .u32 0, .int .u32 0, .bool false, .int .u32 0, .int .u32 0, .int .u32 0, .int .u32 0, .bool false] : Array Value).all (·.oneCell') = true by simp [Value.oneCell'])
  go_wp2_with (refine wpList_store_to rfl 33 _ _ rfl (w.heap.size + 1) #[.int .u32 0, .int .u32 0, .int .u32 0, .int .u32 0, .int .u32 0, .bool false, .int .u32 0, .int .u32 0, .int .u32 0, .int .u32 0, .bool false] rfl rfl 33 #[.int .u32 0, .int .u32 0, .int .u32 0, .int .u32 0, .int .u32 0, .bool false, .int .u32 0, .int .u32 0, .int .u32 0, .int .u32 0, .bool false] K3.out (by kernel_rfl) rfl HO5.out ?_)
  intro w6 hx7 hkk
  have K8 := Lib.hid (hx7.out.heap K2.out (by omega))
  clear K2
  have K9 := Lib.hid hkk
  clear hkk K3
  have HB10 := Lib.hid (HB4.out.trans (hx7.out.below (B := w.heap.size) (fun k hk e => by omega) HB4.out.size))
  clear HB4 hx7
  go_wp2_with fail
  exact bodyPost_ret (v := .tuple #[.agg #[.int .u32 0, .int .u32 0, .int .u32 0, .int .u32 0, .int .u32 0, .bool false, .int .u32 0, .int .u32 0, .int .u32 0, .int .u32 0, .bool false], .iface 109 (.int .i64 1)]) (results_cell_tmp Tryd.results18 _ _ (w.heap.size + 1) 33 #[.int .u32 0, .int .u32 0, .int .u32 0, .int .u32 0, .int .u32 0, .bool false, .int .u32 0, .int .u32 0, .int .u32 0, .int .u32 0, .bool false] (0, 0) _ rfl K9.out Tryd.underlying33 rfl (by kernel_rfl)) rfl ⟨rfl, HB10.out⟩

set_option maxRecDepth 100000 in
set_option maxHeartbeats 4000000 in
theorem dma_wr_bad20 (head at_ steps moved : Nat) (have_ : Bool) (from_ to_ left next : Nat) (asks : Bool) (code at_x v : Nat) (w : World) (HC : Hid (∀ W, Calls Tryd.prog 67 #[.agg #[.int .u32 code, .int .u32 head, .int .u32 at_, .int .u32 steps, .int .u32 moved, .bool have_, .int .u32 from_, .int .u32 to_, .int .u32 left, .int .u32 next, .bool asks], .int .u32 at_x] W fun e w' => e = .returned (errV 20) ∧ Below W.heap.size W w')) : Calls Tryd.prog 18 #[.agg #[.int .u32 code, .int .u32 head, .int .u32 at_, .int .u32 steps, .int .u32 moved, .bool have_, .int .u32 from_, .int .u32 to_, .int .u32 left, .int .u32 next, .bool asks], .int .u32 at_x, .int .u32 v] w fun e w' => e = .returned (.tuple #[.agg #[.int .u32 0, .int .u32 0, .int .u32 0, .int .u32 0, .int .u32 0, .bool false, .int .u32 0, .int .u32 0, .int .u32 0, .int .u32 0, .bool false], errV 20]) ∧ Below w.heap.size w w' := by
  rw [errV_20] at HC ⊢
  obtain ⟨k0, k1, hb0⟩ := two_new w (.cells #[.int .u32 code, .int .u32 head, .int .u32 at_, .int .u32 steps, .int .u32 moved, .bool have_, .int .u32 from_, .int .u32 to_, .int .u32 left, .int .u32 next, .bool asks] 33) (.cells #[.int .u32 0, .int .u32 0, .int .u32 0, .int .u32 0, .int .u32 0, .bool false, .int .u32 0, .int .u32 0, .int .u32 0, .int .u32 0, .bool false] 33)
  have K0 := Lib.hid k0
  have K1 := Lib.hid k1
  have HB0 := Lib.hid hb0
  clear k0 k1 hb0
  go_enter Tryd.func18, Tryd.ntmps18
  go_wp2_with fail
  refine (HC.out _).mono ?_
  rintro e w1 ⟨rfl, hb⟩
  have K2 := Lib.hid (keepB K0.out hb)
  clear K0
  have K3 := Lib.hid (keepB K1.out hb)
  clear K1
  have HB4 := Lib.hid (HB0.out.trans (hb.mono HB0.out.size))
  clear HB0
  clear hb
  have HO5 := Lib.hid (show (#[.int .u32 0, .int .u32 0, .int .u32 0, .int .u32 0, .int .u32 0, .bool false, .int .u32 0, .int .u32 0, .int .u32 0, .int .u32 0, .bool false] : Array Value).all (·.oneCell') = true by simp [Value.oneCell'])
  go_wp2_with (refine wpList_store_to rfl 33 _ _ rfl (w.heap.size + 1) #[.int .u32 0, .int .u32 0, .int .u32 0, .int .u32 0, .int .u32 0, .bool false, .int .u32 0, .int .u32 0, .int .u32 0, .int .u32 0, .bool false] rfl rfl 33 #[.int .u32 0, .int .u32 0, .int .u32 0, .int .u32 0, .int .u32 0, .bool false, .int .u32 0, .int .u32 0, .int .u32 0, .int .u32 0, .bool false] K3.out (by kernel_rfl) rfl HO5.out ?_)
  intro w6 hx7 hkk
  have K8 := Lib.hid (hx7.out.heap K2.out (by omega))
  clear K2
  have K9 := Lib.hid hkk
  clear hkk K3
  have HB10 := Lib.hid (HB4.out.trans (hx7.out.below (B := w.heap.size) (fun k hk e => by omega) HB4.out.size))
  clear HB4 hx7
  go_wp2_with fail
  exact bodyPost_ret (v := .tuple #[.agg #[.int .u32 0, .int .u32 0, .int .u32 0, .int .u32 0, .int .u32 0, .bool false, .int .u32 0, .int .u32 0, .int .u32 0, .int .u32 0, .bool false], .iface 109 (.int .i64 20)]) (results_cell_tmp Tryd.results18 _ _ (w.heap.size + 1) 33 #[.int .u32 0, .int .u32 0, .int .u32 0, .int .u32 0, .int .u32 0, .bool false, .int .u32 0, .int .u32 0, .int .u32 0, .int .u32 0, .bool false] (0, 0) _ rfl K9.out Tryd.underlying33 rfl (by kernel_rfl)) rfl ⟨rfl, HB10.out⟩

def Dst.zero : Dst := ⟨0, 0, 0, 0, 0, false, 0, 0, 0, 0, false⟩
def Dst.wr (s : Dst) (a v : Nat) : Dst :=
  if a = 0 ∧ v = 1 ∧ s.code ≠ 1 then { Dst.zero with code := 1, head := s.head, at_ := s.head }
  else if a = 0 ∧ v = 2 then { Dst.zero with head := s.head, moved := s.moved }
  else if a = 8 ∧ s.code ≠ 1 then { s with head := v }
  else if a = 16 ∧ v = 1 then { s with asks := false }
  else s
theorem dma_Write_ok (s : Dst) (a v : Nat) (w : World) (hs : s.okP) (ha : a < 256) (hm : a % 4 = 0) :
    Calls Tryd.prog 18 #[.agg s.c, .int .u32 a, .int .u32 v] w fun e w' => e = .returned (.tuple #[.agg (s.wr a v).c, .nilIface]) ∧ Below w.heap.size w w' := by
  have HC := Lib.hid (fun W => dma_bad_ok s a W (by omega) hs ha hm)
  obtain ⟨code, head, at_, steps, moved, have_, from_, to_, left, next, asks⟩ := s
  unfold Dst.wr
  clear hs
  by_cases h0 : a = 0
  · subst h0
    by_cases h1 : v = 1
    · subst h1
      by_cases hc : code = 1
      · subst hc
        rw [if_neg (fun h => h.2.2 rfl), if_neg (by omega), if_neg (by omega), if_neg (by omega)]
        exact dma_wr2 _ _ _ _ _ _ _ _ _ _ w HC
      · rw [if_pos ⟨rfl, rfl, hc⟩]
        exact dma_wr1 _ _ _ _ _ _ _ _ _ _ _ w hc HC
    · by_cases h2 : v = 2
      · subst h2
        rw [if_neg (by omega), if_pos ⟨rfl, rfl⟩]
        exact dma_wr3 _ _ _ _ _ _ _ _ _ _ _ w HC
      · rw [if_neg (by omega), if_neg (by omega), if_neg (by omega), if_neg (by omega)]
        exact dma_wr4 _ _ _ _ _ _ _ _ _ _ _ _ w h1 h2 HC
  · rw [if_neg (by omega), if_neg (by omega)]
    by_cases h8 : a = 8
    · subst h8
      by_cases hc : code = 1
      · subst hc
        rw [if_neg (fun h => h.2 rfl), if_neg (by omega)]
        exact dma_wr6 _ _ _ _ _ _ _ _ _ _ _ w HC
      · rw [if_pos ⟨rfl, hc⟩]
        exact dma_wr5 _ _ _ _ _ _ _ _ _ _ _ _ w hc HC
    · rw [if_neg (by omega)]
      by_cases h16 : a = 16
      · subst h16
        by_cases h1 : v = 1
        · subst h1
          rw [if_pos ⟨rfl, rfl⟩]
          exact dma_wr7 _ _ _ _ _ _ _ _ _ _ _ w HC
        · rw [if_neg (by omega)]
          exact dma_wr8 _ _ _ _ _ _ _ _ _ _ _ _ w h1 HC
      · rw [if_neg (by omega)]
        exact dma_wr9 _ _ _ _ _ _ _ _ _ _ _ _ _ w h0 h8 h16 HC
theorem dma_Write_state (s : Dst) (a v : Nat) (w : World) (ha : a < 4294967296) (hs : ¬ s.okP) :
    Calls Tryd.prog 18 #[.agg s.c, .int .u32 a, .int .u32 v] w fun e w' => e = .returned (.tuple #[.agg Dst.zero.c, errV 1]) ∧ Below w.heap.size w w' := by
  have HC := Lib.hid (fun W => dma_bad_state s a W ha hs)
  exact dma_wr_bad1 _ _ _ _ _ _ _ _ _ _ _ _ _ w HC
theorem dma_Write_bus (s : Dst) (a v : Nat) (w : World) (ha : a < 4294967296) (hs : s.okP) (hb : 256 ≤ a ∨ a % 4 ≠ 0) :
    Calls Tryd.prog 18 #[.agg s.c, .int .u32 a, .int .u32 v] w fun e w' => e = .returned (.tuple #[.agg Dst.zero.c, errV 20]) ∧ Below w.heap.size w w' := by
  by_cases h : 256 ≤ a
  · exact dma_wr_bad20 _ _ _ _ _ _ _ _ _ _ _ _ _ w (Lib.hid (fun W => dma_bad_far s a W ha hs h))
  · exact dma_wr_bad20 _ _ _ _ _ _ _ _ _ _ _ _ _ w (Lib.hid (fun W => dma_bad_odd s a W ha hs (by omega) (by omega)))
end Go.Proofs.YtcakcfeipfjmpaaDoor
