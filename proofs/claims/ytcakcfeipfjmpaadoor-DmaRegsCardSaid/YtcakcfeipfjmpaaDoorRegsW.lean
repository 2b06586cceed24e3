/-
dma.Read, pinnaceref12.Read, pinnaceref12.Write, walked, and what both answer.
No condition.
-/
import Derived.Test.YtcakcfeipfjmpaaDoorRef12
import Derived.Test.YtcakcfeipfjmpaaDoorDmaWrite
import Derived.Test.YtcakcfeipfjmpaaDoorDmaBad
namespace Go.Proofs.YtcakcfeipfjmpaaDoor
open Go.RowKit


set_option maxRecDepth 100000 in
set_option maxHeartbeats 4000000 in
theorem r12_wr1 (head at_ steps moved : Nat) (have_ : Bool) (from_ to_ left next : Nat) (asks : Bool) (code : Nat) (w : World) (hc : code ≠ 1) (HC : Hid (∀ W, Calls Tryd.prog 41 #[.agg #[.int .u32 code, .int .u32 head, .int .u32 at_, .int .u32 steps, .int .u32 moved, .bool have_, .int .u32 from_, .int .u32 to_, .int .u32 left, .int .u32 next, .bool asks]] W fun e w' => e = .returned (.int .i64 0) ∧ Below W.heap.size W w')) : Calls Tryd.prog 39 #[.agg #[.int .u32 code, .int .u32 head, .int .u32 at_, .int .u32 steps, .int .u32 moved, .bool have_, .int .u32 from_, .int .u32 to_, .int .u32 left, .int .u32 next, .bool asks], .int .u32 0, .int .u32 1] w fun e w' => e = .returned (.tuple #[.agg #[.int .u32 1, .int .u32 head, .int .u32 head, .int .u32 0, .int .u32 0, .bool false, .int .u32 0, .int .u32 0, .int .u32 0, .int .u32 0, .bool false], .int .i64 0]) ∧ Below w.heap.size w w' := by
  have b1 : ((code : Int) != 1) = true := by simp; omega
  clear hc
  obtain ⟨k0, k1, hb0⟩ := two_new w (.cells #[.int .u32 code, .int .u32 head, .int .u32 at_, .int .u32 steps, .int .u32 moved, .bool have_, .int .u32 from_, .int .u32 to_, .int .u32 left, .int .u32 next, .bool asks] 24) (.cells #[.int .u32 0, .int .u32 0, .int .u32 0, .int .u32 0, .int .u32 0, .bool false, .int .u32 0, .int .u32 0, .int .u32 0, .int .u32 0, .bool false] 24)
  have K0 := Lib.hid k0
  have K1 := Lib.hid k1
  have HB0 := Lib.hid hb0
  clear k0 k1 hb0
  go_enter Tryd.func39, Tryd.ntmps39
  go_wp2_with fail
  refine (HC.out _).mono ?_
  rintro e w1 ⟨rfl, hb⟩
  have K2 := Lib.hid (keepB K0.out hb)
  clear K0
  have K3 := Lib.hid (keepB K1.out hb)
  clear K1
  have HB4 := Lib.hid (HB0.out.trans (hb.mono HB0.out.size))
  clear HB0
  clear hb
  have c5 := (cell_of_row _ _ 0 _ _ _ K2.out).trans (rfl : _ = some (.int .u32 code : Value))
  have c6 := (cell_of_row _ _ 1 _ _ _ K2.out).trans (rfl : _ = some (.int .u32 head : Value))
  have c7 := (cell_of_row _ _ 4 _ _ _ K2.out).trans (rfl : _ = some (.int .u32 moved : Value))
  have HO8 := Lib.hid (show (#[.int .u32 1, .int .u32 head, .int .u32 head, .int .u32 0, .int .u32 0, .bool false, .int .u32 0, .int .u32 0, .int .u32 0, .int .u32 0, .bool false] : Array Value).all (·.oneCell') = true by simp [Value.oneCell'])
  go_wp2_with (refine wpList_store_to rfl 24 _ _ rfl (w.heap.size + 1) #[.int .u32 1, .int .u32 head, .int .u32 head, .int .u32 0, .int .u32 0, .bool false, .int .u32 0, .int .u32 0, .int .u32 0, .int .u32 0, .bool false] rfl rfl 24 #[.int .u32 0, .int .u32 0, .int .u32 0, .int .u32 0, .int .u32 0, .bool false, .int .u32 0, .int .u32 0, .int .u32 0, .int .u32 0, .bool false] K3.out (by kernel_rfl) rfl HO8.out ?_)
  intro w9 hx10 hkk
  clear c5 c6 c7
  have K11 := Lib.hid (hx10.out.heap K2.out (by omega))
  clear K2
  have K12 := Lib.hid hkk
  clear hkk K3
  have HB13 := Lib.hid (HB4.out.trans (hx10.out.below (B := w.heap.size) (fun k hk e => by omega) HB4.out.size))
  clear HB4 hx10
  go_wp2_with fail
  exact bodyPost_ret (v := .tuple #[.agg #[.int .u32 1, .int .u32 head, .int .u32 head, .int .u32 0, .int .u32 0, .bool false, .int .u32 0, .int .u32 0, .int .u32 0, .int .u32 0, .bool false], .int .i64 0]) (results_cell_tmp Tryd.results39 _ _ (w.heap.size + 1) 24 #[.int .u32 1, .int .u32 head, .int .u32 head, .int .u32 0, .int .u32 0, .bool false, .int .u32 0, .int .u32 0, .int .u32 0, .int .u32 0, .bool false] (0, 0) _ rfl K12.out Tryd.underlying24 rfl (by kernel_rfl)) rfl ⟨rfl, HB13.out⟩

set_option maxRecDepth 100000 in
set_option maxHeartbeats 4000000 in
theorem r12_wr2 (head at_ steps moved : Nat) (have_ : Bool) (from_ to_ left next : Nat) (asks : Bool) (w : World)  (HC : Hid (∀ W, Calls Tryd.prog 41 #[.agg #[.int .u32 1, .int .u32 head, .int .u32 at_, .int .u32 steps, .int .u32 moved, .bool have_, .int .u32 from_, .int .u32 to_, .int .u32 left, .int .u32 next, .bool asks]] W fun e w' => e = .returned (.int .i64 0) ∧ Below W.heap.size W w')) : Calls Tryd.prog 39 #[.agg #[.int .u32 1, .int .u32 head, .int .u32 at_, .int .u32 steps, .int .u32 moved, .bool have_, .int .u32 from_, .int .u32 to_, .int .u32 left, .int .u32 next, .bool asks], .int .u32 0, .int .u32 1] w fun e w' => e = .returned (.tuple #[.agg #[.int .u32 1, .int .u32 head, .int .u32 at_, .int .u32 steps, .int .u32 moved, .bool have_, .int .u32 from_, .int .u32 to_, .int .u32 left, .int .u32 next, .bool asks], .int .i64 0]) ∧ Below w.heap.size w w' := by
  obtain ⟨k0, k1, hb0⟩ := two_new w (.cells #[.int .u32 1, .int .u32 head, .int .u32 at_, .int .u32 steps, .int .u32 moved, .bool have_, .int .u32 from_, .int .u32 to_, .int .u32 left, .int .u32 next, .bool asks] 24) (.cells #[.int .u32 0, .int .u32 0, .int .u32 0, .int .u32 0, .int .u32 0, .bool false, .int .u32 0, .int .u32 0, .int .u32 0, .int .u32 0, .bool false] 24)
  have K0 := Lib.hid k0
  have K1 := Lib.hid k1
  have HB0 := Lib.hid hb0
  clear k0 k1 hb0
  go_enter Tryd.func39, Tryd.ntmps39
  go_wp2_with fail
  refine (HC.out _).mono ?_
  rintro e w1 ⟨rfl, hb⟩
  have K2 := Lib.hid (keepB K0.out hb)
  clear K0
  have K3 := Lib.hid (keepB K1.out hb)
  clear K1
  have HB4 := Lib.hid (HB0.out.trans (hb.mono HB0.out.size))
  clear HB0
  clear hb
  have c5 := (cell_of_row _ _ 0 _ _ _ K2.out).trans (rfl : _ = some (.int .u32 1 : Value))
  have c6 := (cell_of_row _ _ 1 _ _ _ K2.out).trans (rfl : _ = some (.int .u32 head : Value))
  have c7 := (cell_of_row _ _ 4 _ _ _ K2.out).trans (rfl : _ = some (.int .u32 moved : Value))
  have HO8 := Lib.hid (show (#[.int .u32 1, .int .u32 head, .int .u32 at_, .int .u32 steps, .int .u32 moved, .bool have_, .int .u32 from_, .int .u32 to_, .int .u32 left, .int .u32 next, .bool asks] : Array Value).all (·.oneCell') = true by simp [Value.oneCell'])
  go_wp2_with (first | (refine wpList_load_row rfl 24 _ rfl (w.heap.size) rfl 24 #[.int .u32 1, .int .u32 head, .int .u32 at_, .int .u32 steps, .int .u32 moved, .bool have_, .int .u32 from_, .int .u32 to_, .int .u32 left, .int .u32 next, .bool asks] (0, 0) _ K2.out Tryd.underlying24 rfl (by kernel_rfl) ?_) | (refine wpList_store_to rfl 24 _ _ rfl (w.heap.size + 1) #[.int .u32 1, .int .u32 head, .int .u32 at_, .int .u32 steps, .int .u32 moved, .bool have_, .int .u32 from_, .int .u32 to_, .int .u32 left, .int .u32 next, .bool asks] rfl rfl 24 #[.int .u32 0, .int .u32 0, .int .u32 0, .int .u32 0, .int .u32 0, .bool false, .int .u32 0, .int .u32 0, .int .u32 0, .int .u32 0, .bool false] K3.out (by kernel_rfl) rfl HO8.out ?_))
  intro w9 hx10 hkk
  clear c5 c6 c7
  have K11 := Lib.hid (hx10.out.heap K2.out (by omega))
  clear K2
  have K12 := Lib.hid hkk
  clear hkk K3
  have HB13 := Lib.hid (HB4.out.trans (hx10.out.below (B := w.heap.size) (fun k hk e => by omega) HB4.out.size))
  clear HB4 hx10
  go_wp2_with fail
  exact bodyPost_ret (v := .tuple #[.agg #[.int .u32 1, .int .u32 head, .int .u32 at_, .int .u32 steps, .int .u32 moved, .bool have_, .int .u32 from_, .int .u32 to_, .int .u32 left, .int .u32 next, .bool asks], .int .i64 0]) (results_cell_tmp Tryd.results39 _ _ (w.heap.size + 1) 24 #[.int .u32 1, .int .u32 head, .int .u32 at_, .int .u32 steps, .int .u32 moved, .bool have_, .int .u32 from_, .int .u32 to_, .int .u32 left, .int .u32 next, .bool asks] (0, 0) _ rfl K12.out Tryd.underlying24 rfl (by kernel_rfl)) rfl ⟨rfl, HB13.out⟩

set_option maxRecDepth 100000 in
set_option maxHeartbeats 4000000 in
theorem r12_wr3 (head at_ steps moved : Nat) (have_ : Bool) (from_ to_ left next : Nat) (asks : Bool) (code : Nat) (w : World)  (HC : Hid (∀ W, Calls Tryd.prog 41 #[.agg #[.int .u32 code, .int .u32 head, .int .u32 at_, .int .u32 steps, .int .u32 moved, .bool have_, .int .u32 from_, .int .u32 to_, .int .u32 left, .int .u32 next, .bool asks]] W fun e w' => e = .returned (.int .i64 0) ∧ Below W.heap.size W w')) : Calls Tryd.prog 39 #[.agg #[.int .u32 code, .int .u32 head, .int .u32 at_, .int .u32 steps, .int .u32 moved, .bool have_, .int .u32 from_, .int .u32 to_, .int .u32 left, .int .u32 next, .bool asks], .int .u32 0, .int .u32 2] w fun e w' => e = .returned (.tuple #[.agg #[.int .u32 0, .int .u32 head, .int .u32 0, .int .u32 0, .int .u32 moved, .bool false, .int .u32 0, .int .u32 0, .int .u32 0, .int .u32 0, .bool false], .int .i64 0]) ∧ Below w.heap.size w w' := by
  obtain ⟨k0, k1, hb0⟩ := two_new w (.cells #[.int .u32 code, .int .u32 head, .int .u32 at_, .int .u32 steps, .int .u32 moved, .bool have_, .int .u32 from_, .int .u32 to_, .int .u32 left, .int .u32 next, .bool asks] 24) (.cells #[.int .u32 0, .int .u32 0, .int .u32 0, .int .u32 0, .int .u32 0, .bool false, .int .u32 0, .int .u32 0, .int .u32 0, .int .u32 0, .bool false] 24)
  have K0 := Lib.hid k0
  have K1 := Lib.hid k1
  have HB0 := Lib.hid hb0
  clear k0 k1 hb0
  go_enter Tryd.func39, Tryd.ntmps39
  go_wp2_with fail
  refine (HC.out _).mono ?_
  rintro e w1 ⟨rfl, hb⟩
  have K2 := Lib.hid (keepB K0.out hb)
  clear K0
  have K3 := Lib.hid (keepB K1.out hb)
  clear K1
  have HB4 := Lib.hid (HB0.out.trans (hb.mono HB0.out.size))
  clear HB0
  clear hb
  have c5 := (cell_of_row _ _ 0 _ _ _ K2.out).trans (rfl : _ = some (.int .u32 code : Value))
  have c6 := (cell_of_row _ _ 1 _ _ _ K2.out).trans (rfl : _ = some (.int .u32 head : Value))
  have c7 := (cell_of_row _ _ 4 _ _ _ K2.out).trans (rfl : _ = some (.int .u32 moved : Value))
  have HO8 := Lib.hid (show (#[.int .u32 0, .int .u32 head, .int .u32 0, .int .u32 0, .int .u32 moved, .bool false, .int .u32 0, .int .u32 0, .int .u32 0, .int .u32 0, .bool false] : Array Value).all (·.oneCell') = true by simp [Value.oneCell'])
  go_wp2_with (refine wpList_store_to rfl 24 _ _ rfl (w.heap.size + 1) #[.int .u32 0, .int .u32 head, .int .u32 0, .int .u32 0, .int .u32 moved, .bool false, .int .u32 0, .int .u32 0, .int .u32 0, .int .u32 0, .bool false] rfl rfl 24 #[.int .u32 0, .int .u32 0, .int .u32 0, .int .u32 0, .int .u32 0, .bool false, .int .u32 0, .int .u32 0, .int .u32 0, .int .u32 0, .bool false] K3.out (by kernel_rfl) rfl HO8.out ?_)
  intro w9 hx10 hkk
  clear c5 c6 c7
  have K11 := Lib.hid (hx10.out.heap K2.out (by omega))
  clear K2
  have K12 := Lib.hid hkk
  clear hkk K3
  have HB13 := Lib.hid (HB4.out.trans (hx10.out.below (B := w.heap.size) (fun k hk e => by omega) HB4.out.size))
  clear HB4 hx10
  go_wp2_with fail
  exact bodyPost_ret (v := .tuple #[.agg #[.int .u32 0, .int .u32 head, .int .u32 0, .int .u32 0, .int .u32 moved, .bool false, .int .u32 0, .int .u32 0, .int .u32 0, .int .u32 0, .bool false], .int .i64 0]) (results_cell_tmp Tryd.results39 _ _ (w.heap.size + 1) 24 #[.int .u32 0, .int .u32 head, .int .u32 0, .int .u32 0, .int .u32 moved, .bool false, .int .u32 0, .int .u32 0, .int .u32 0, .int .u32 0, .bool false] (0, 0) _ rfl K12.out Tryd.underlying24 rfl (by kernel_rfl)) rfl ⟨rfl, HB13.out⟩

set_option maxRecDepth 100000 in
set_option maxHeartbeats 4000000 in
theorem r12_wr4 (head at_ steps moved : Nat) (have_ : Bool) (from_ to_ left next : Nat) (asks : Bool) (code : Nat) (v : Nat) (w : World) (h1 : v ≠ 1) (h2 : v ≠ 2) (HC : Hid (∀ W, Calls Tryd.prog 41 #[.agg #[.int .u32 code, .int .u32 head, .int .u32 at_, .int .u32 steps, .int .u32 moved, .bool have_, .int .u32 from_, .int .u32 to_, .int .u32 left, .int .u32 next, .bool asks]] W fun e w' => e = .returned (.int .i64 0) ∧ Below W.heap.size W w')) : Calls Tryd.prog 39 #[.agg #[.int .u32 code, .int .u32 head, .int .u32 at_, .int .u32 steps, .int .u32 moved, .bool have_, .int .u32 from_, .int .u32 to_, .int .u32 left, .int .u32 next, .bool asks], .int .u32 0, .int .u32 v] w fun e w' => e = .returned (.tuple #[.agg #[.int .u32 code, .int .u32 head, .int .u32 at_, .int .u32 steps, .int .u32 moved, .bool have_, .int .u32 from_, .int .u32 to_, .int .u32 left, .int .u32 next, .bool asks], .int .i64 0]) ∧ Below w.heap.size w w' := by
  have b1 : ((v : Int) == 1) = false := by simp; omega
  have b2 : ((v : Int) == 2) = false := by simp; omega
  clear h1 h2
  obtain ⟨k0, k1, hb0⟩ := two_new w (.cells #[.int .u32 code, .int .u32 head, .int .u32 at_, .int .u32 steps, .int .u32 moved, .bool have_, .int .u32 from_, .int .u32 to_, .int .u32 left, .int .u32 next, .bool asks] 24) (.cells #[.int .u32 0, .int .u32 0, .int .u32 0, .int .u32 0, .int .u32 0, .bool false, .int .u32 0, .int .u32 0, .int .u32 0, .int .u32 0, .bool false] 24)
  have K0 := Lib.hid k0
  have K1 := Lib.hid k1
  have HB0 := Lib.hid hb0
  clear k0 k1 hb0
  go_enter Tryd.func39, Tryd.ntmps39
  go_wp2_with fail
  refine (HC.out _).mono ?_
  rintro e w1 ⟨rfl, hb⟩
  have K2 := Lib.hid (keepB K0.out hb)
  clear K0
  have K3 := Lib.hid (keepB K1.out hb)
  clear K1
  have HB4 := Lib.hid (HB0.out.trans (hb.mono HB0.out.size))
  clear HB0
  clear hb
  have c5 := (cell_of_row _ _ 0 _ _ _ K2.out).trans (rfl : _ = some (.int .u32 code : Value))
  have c6 := (cell_of_row _ _ 1 _ _ _ K2.out).trans (rfl : _ = some (.int .u32 head : Value))
  have c7 := (cell_of_row _ _ 4 _ _ _ K2.out).trans (rfl : _ = some (.int .u32 moved : Value))
  have HO8 := Lib.hid (show (#[.int .u32 code, .int .u32 head, .int .u32 at_, .int .u32 steps, .int .u32 moved, .bool have_, .int .u32 from_, .int .u32 to_, .int .u32 left, .int .u32 next, .bool asks] : Array Value).all (·.oneCell') = true by simp [Value.oneCell'])
  go_wp2_with (first | (refine wpList_load_row rfl 24 _ rfl (w.heap.size) rfl 24 #[.int .u32 code, .int .u32 head, .int .u32 at_, .int .u32 steps, .int .u32 moved, .bool have_, .int .u32 from_, .int .u32 to_, .int .u32 left, .int .u32 next, .bool asks] (0, 0) _ K2.out Tryd.underlying24 rfl (by kernel_rfl) ?_) | (refine wpList_store_to rfl 24 _ _ rfl (w.heap.size + 1) #[.int .u32 code, .int .u32 head, .int .u32 at_, .int .u32 steps, .int .u32 moved, .bool have_, .int .u32 from_, .int .u32 to_, .int .u32 left, .int .u32 next, .bool asks] rfl rfl 24 #[.int .u32 0, .int .u32 0, .int .u32 0, .int .u32 0, .int .u32 0, .bool false, .int .u32 0, .int .u32 0, .int .u32 0, .int .u32 0, .bool false] K3.out (by kernel_rfl) rfl HO8.out ?_))
  intro w9 hx10 hkk
  clear c5 c6 c7
  have K11 := Lib.hid (hx10.out.heap K2.out (by omega))
  clear K2
  have K12 := Lib.hid hkk
  clear hkk K3
  have HB13 := Lib.hid (HB4.out.trans (hx10.out.below (B := w.heap.size) (fun k hk e => by omega) HB4.out.size))
  clear HB4 hx10
  go_wp2_with fail
  exact bodyPost_ret (v := .tuple #[.agg #[.int .u32 code, .int .u32 head, .int .u32 at_, .int .u32 steps, .int .u32 moved, .bool have_, .int .u32 from_, .int .u32 to_, .int .u32 left, .int .u32 next, .bool asks], .int .i64 0]) (results_cell_tmp Tryd.results39 _ _ (w.heap.size + 1) 24 #[.int .u32 code, .int .u32 head, .int .u32 at_, .int .u32 steps, .int .u32 moved, .bool have_, .int .u32 from_, .int .u32 to_, .int .u32 left, .int .u32 next, .bool asks] (0, 0) _ rfl K12.out Tryd.underlying24 rfl (by kernel_rfl)) rfl ⟨rfl, HB13.out⟩

set_option maxRecDepth 100000 in
set_option maxHeartbeats 4000000 in
theorem r12_wr5 (head at_ steps moved : Nat) (have_ : Bool) (from_ to_ left next : Nat) (asks : Bool) (code : Nat) (v : Nat) (w : World) (hc : code ≠ 1) (HC : Hid (∀ W, Calls Tryd.prog 41 #[.agg #[.int .u32 code, .int .u32 head, .int .u32 at_, .int .u32 steps, .int .u32 moved, .bool have_, .int .u32 from_, .int .u32 to_, .int .u32 left, .int .u32 next, .bool asks]] W fun e w' => e = .returned (.int .i64 0) ∧ Below W.heap.size W w')) : Calls Tryd.prog 39 #[.agg #[.int .u32 code, .int .u32 head, .int .u32 at_, .int .u32 steps, .int .u32 moved, .bool have_, .int .u32 from_, .int .u32 to_, .int .u32 left, .int .u32 next, .bool asks], .int .u32 8, .int .u32 v] w fun e w' => e = .returned (.tuple #[.agg #[.int .u32 code, .int .u32 v, .int .u32 at_, .int .u32 steps, .int .u32 moved, .bool have_, .int .u32 from_, .int .u32 to_, .int .u32 left, .int .u32 next, .bool asks], .int .i64 0]) ∧ Below w.heap.size w w' := by
  have b1 : ((code : Int) != 1) = true := by simp; omega
  clear hc
  obtain ⟨k0, k1, hb0⟩ := two_new w (.cells #[.int .u32 code, .int .u32 head, .int .u32 at_, .int .u32 steps, .int .u32 moved, .bool have_, .int .u32 from_, .int .u32 to_, .int .u32 left, .int .u32 next, .bool asks] 24) (.cells #[.int .u32 0, .int .u32 0, .int .u32 0, .int .u32 0, .int .u32 0, .bool false, .int .u32 0, .int .u32 0, .int .u32 0, .int .u32 0, .bool false] 24)
  have K0 := Lib.hid k0
  have K1 := Lib.hid k1
  have HB0 := Lib.hid hb0
  clear k0 k1 hb0
  go_enter Tryd.func39, Tryd.ntmps39
  go_wp2_with fail
  refine (HC.out _).mono ?_
  rintro e w1 ⟨rfl, hb⟩
  have K2 := Lib.hid (keepB K0.out hb)
  clear K0
  have K3 := Lib.hid (keepB K1.out hb)
  clear K1
  have HB4 := Lib.hid (HB0.out.trans (hb.mono HB0.out.size))
  clear HB0
  clear hb
  have c5 := (cell_of_row _ _ 0 _ _ _ K2.out).trans (rfl : _ = some (.int .u32 code : Value))
  have c6 := (cell_of_row _ _ 1 _ _ _ K2.out).trans (rfl : _ = some (.int .u32 head : Value))
  have c7 := (cell_of_row _ _ 4 _ _ _ K2.out).trans (rfl : _ = some (.int .u32 moved : Value))
  clear c5 c6 c7
  have c8 := (cell_of_row _ _ 0 _ _ _ K2.out).trans (rfl : _ = some (.int .u32 code : Value))
  have c9 := (cell_of_row _ _ 1 _ _ _ K2.out).trans (rfl : _ = some (.int .u32 head : Value))
  have c10 := (cell_of_row _ _ 10 _ _ _ K2.out).trans (rfl : _ = some (.bool asks : Value))
  have f11 := fun j => frozen_of_row _ _ j _ _ K2.out
  have hkk : ((w1).setCell ⟨w.heap.size, 1, none⟩ (.int .u32 v)).heap[w.heap.size]? = some (.cells #[.int .u32 code, .int .u32 v, .int .u32 at_, .int .u32 steps, .int .u32 moved, .bool have_, .int .u32 from_, .int .u32 to_, .int .u32 left, .int .u32 next, .bool asks] 24 (0, 0)) := (set_cells (K2.out)).trans rfl
  have hx13 := Lib.hid (show KX (fun k => k = w.heap.size) w1 ((w1).setCell ⟨w.heap.size, 1, none⟩ (.int .u32 v)) from (KX.refl (fun k => k = w.heap.size) w1).setCell (p := ⟨w.heap.size, 1, none⟩) (.inl rfl) _)
  go_upto_region 13 with fail
  generalize ((w1).setCell ⟨w.heap.size, 1, none⟩ (.int .u32 v)) = w12 at hkk hx13 ⊢
  clear c8 c9 c10 f11
  have K14 := Lib.hid (hx13.out.heap K3.out (by omega))
  clear K3
  have K15 := Lib.hid hkk
  clear hkk K2
  have HB16 := Lib.hid (HB4.out.trans (hx13.out.below (B := w.heap.size) (fun k hk e => by omega) HB4.out.size))
  clear HB4 hx13
  have HO17 := Lib.hid (show (#[.int .u32 code, .int .u32 v, .int .u32 at_, .int .u32 steps, .int .u32 moved, .bool have_, .int .u32 from_, .int .u32 to_, .int .u32 left, .int .u32 next, .bool asks] : Array Value).all (·.oneCell') = true by simp [Value.oneCell'])
  go_wp2_with (first | (refine wpList_load_row rfl 24 _ rfl (w.heap.size) rfl 24 #[.int .u32 code, .int .u32 v, .int .u32 at_, .int .u32 steps, .int .u32 moved, .bool have_, .int .u32 from_, .int .u32 to_, .int .u32 left, .int .u32 next, .bool asks] (0, 0) _ K15.out Tryd.underlying24 rfl (by kernel_rfl) ?_) | (refine wpList_store_to rfl 24 _ _ rfl (w.heap.size + 1) #[.int .u32 code, .int .u32 v, .int .u32 at_, .int .u32 steps, .int .u32 moved, .bool have_, .int .u32 from_, .int .u32 to_, .int .u32 left, .int .u32 next, .bool asks] rfl rfl 24 #[.int .u32 0, .int .u32 0, .int .u32 0, .int .u32 0, .int .u32 0, .bool false, .int .u32 0, .int .u32 0, .int .u32 0, .int .u32 0, .bool false] K14.out (by kernel_rfl) rfl HO17.out ?_))
  intro w18 hx19 hkk
  have K20 := Lib.hid (hx19.out.heap K15.out (by omega))
  clear K15
  have K21 := Lib.hid hkk
  clear hkk K14
  have HB22 := Lib.hid (HB16.out.trans (hx19.out.below (B := w.heap.size) (fun k hk e => by omega) HB16.out.size))
  clear HB16 hx19
  go_wp2_with fail
  exact bodyPost_ret (v := .tuple #[.agg #[.int .u32 code, .int .u32 v, .int .u32 at_, .int .u32 steps, .int .u32 moved, .bool have_, .int .u32 from_, .int .u32 to_, .int .u32 left, .int .u32 next, .bool asks], .int .i64 0]) (results_cell_tmp Tryd.results39 _ _ (w.heap.size + 1) 24 #[.int .u32 code, .int .u32 v, .int .u32 at_, .int .u32 steps, .int .u32 moved, .bool have_, .int .u32 from_, .int .u32 to_, .int .u32 left, .int .u32 next, .bool asks] (0, 0) _ rfl K21.out Tryd.underlying24 rfl (by kernel_rfl)) rfl ⟨rfl, HB22.out⟩

set_option maxRecDepth 100000 in
set_option maxHeartbeats 4000000 in
theorem r12_wr6 (head at_ steps moved : Nat) (have_ : Bool) (from_ to_ left next : Nat) (asks : Bool) (v : Nat) (w : World)  (HC : Hid (∀ W, Calls Tryd.prog 41 #[.agg #[.int .u32 1, .int .u32 head, .int .u32 at_, .int .u32 steps, .int .u32 moved, .bool have_, .int .u32 from_, .int .u32 to_, .int .u32 left, .int .u32 next, .bool asks]] W fun e w' => e = .returned (.int .i64 0) ∧ Below W.heap.size W w')) : Calls Tryd.prog 39 #[.agg #[.int .u32 1, .int .u32 head, .int .u32 at_, .int .u32 steps, .int .u32 moved, .bool have_, .int .u32 from_, .int .u32 to_, .int .u32 left, .int .u32 next, .bool asks], .int .u32 8, .int .u32 v] w fun e w' => e = .returned (.tuple #[.agg #[.int .u32 1, .int .u32 head, .int .u32 at_, .int .u32 steps, .int .u32 moved, .bool have_, .int .u32 from_, .int .u32 to_, .int .u32 left, .int .u32 next, .bool asks], .int .i64 0]) ∧ Below w.heap.size w w' := by
  obtain ⟨k0, k1, hb0⟩ := two_new w (.cells #[.int .u32 1, .int .u32 head, .int .u32 at_, .int .u32 steps, .int .u32 moved, .bool have_, .int .u32 from_, .int .u32 to_, .int .u32 left, .int .u32 next, .bool asks] 24) (.cells #[.int .u32 0, .int .u32 0, .int .u32 0, .int .u32 0, .int .u32 0, .bool false, .int .u32 0, .int .u32 0, .int .u32 0, .int .u32 0, .bool false] 24)
  have K0 := Lib.hid k0
  have K1 := Lib.hid k1
  have HB0 := Lib.hid hb0
  clear k0 k1 hb0
  go_enter Tryd.func39, Tryd.ntmps39
  go_wp2_with fail
  refine (HC.out _).mono ?_
  rintro e w1 ⟨rfl, hb⟩
  have K2 := Lib.hid (keepB K0.out hb)
  clear K0
  have K3 := Lib.hid (keepB K1.out hb)
  clear K1
  have HB4 := Lib.hid (HB0.out.trans (hb.mono HB0.out.size))
  clear HB0
  clear hb
  have c5 := (cell_of_row _ _ 0 _ _ _ K2.out).trans (rfl : _ = some (.int .u32 1 : Value))
  have c6 := (cell_of_row _ _ 1 _ _ _ K2.out).trans (rfl : _ = some (.int .u32 head : Value))
  have c7 := (cell_of_row _ _ 4 _ _ _ K2.out).trans (rfl : _ = some (.int .u32 moved : Value))
  have HO8 := Lib.hid (show (#[.int .u32 1, .int .u32 head, .int .u32 at_, .int .u32 steps, .int .u32 moved, .bool have_, .int .u32 from_, .int .u32 to_, .int .u32 left, .int .u32 next, .bool asks] : Array Value).all (·.oneCell') = true by simp [Value.oneCell'])
  go_wp2_with (first | (refine wpList_load_row rfl 24 _ rfl (w.heap.size) rfl 24 #[.int .u32 1, .int .u32 head, .int .u32 at_, .int .u32 steps, .int .u32 moved, .bool have_, .int .u32 from_, .int .u32 to_, .int .u32 left, .int .u32 next, .bool asks] (0, 0) _ K2.out Tryd.underlying24 rfl (by kernel_rfl) ?_) | (refine wpList_store_to rfl 24 _ _ rfl (w.heap.size + 1) #[.int .u32 1, .int .u32 head, .int .u32 at_, .int .u32 steps, .int .u32 moved, .bool have_, .int .u32 from_, .int .u32 to_, .int .u32 left, .int .u32 next, .bool asks] rfl rfl 24 #[.int .u32 0, .int .u32 0, .int .u32 0, .int .u32 0, .int .u32 0, .bool false, .int .u32 0, .int .u32 0, .int .u32 0, .int .u32 0, .bool false] K3.out (by kernel_rfl) rfl HO8.out ?_))
  intro w9 hx10 hkk
  clear c5 c6 c7
  have K11 := Lib.hid (hx10.out.heap K2.out (by omega))
  clear K2
  have K12 := Lib.hid hkk
  clear hkk K3
  have HB13 := Lib.hid (HB4.out.trans (hx10.out.below (B := w.heap.size) (fun k hk e => by omega) HB4.out.size))
  clear HB4 hx10
  go_wp2_with fail
  exact bodyPost_ret (v := .tuple #[.agg #[.int .u32 1, .int .u32 head, .int .u32 at_, .int .u32 steps, .int .u32 moved, .bool have_, .int .u32 from_, .int .u32 to_, .int .u32 left, .int .u32 next, .bool asks], .int .i64 0]) (results_cell_tmp Tryd.results39 _ _ (w.heap.size + 1) 24 #[.int .u32 1, .int .u32 head, .int .u32 at_, .int .u32 steps, .int .u32 moved, .bool have_, .int .u32 from_, .int .u32 to_, .int .u32 left, .int .u32 next, .bool asks] (0, 0) _ rfl K12.out Tryd.underlying24 rfl (by kernel_rfl)) rfl ⟨rfl, HB13.out⟩

set_option maxRecDepth 100000 in
set_option maxHeartbeats 4000000 in
theorem r12_wr7 (head at_ steps moved : Nat) (have_ : Bool) (from_ to_ left next : Nat) (asks : Bool) (code : Nat) (w : World)  (HC : Hid (∀ W, Calls Tryd.prog 41 #[.agg #[.int .u32 code, .int .u32 head, .int .u32 at_, .int .u32 steps, .int .u32 moved, .bool have_, .int .u32 from_, .int .u32 to_, .int .u32 left, .int .u32 next, .bool asks]] W fun e w' => e = .returned (.int .i64 0) ∧ Below W.heap.size W w')) : Calls Tryd.prog 39 #[.agg #[.int .u32 code, .int .u32 head, .int .u32 at_, .int .u32 steps, .int .u32 moved, .bool have_, .int .u32 from_, .int .u32 to_, .int .u32 left, .int .u32 next, .bool asks], .int .u32 16, .int .u32 1] w fun e w' => e = .returned (.tuple #[.agg #[.int .u32 code, .int .u32 head, .int .u32 at_, .int .u32 steps, .int .u32 moved, .bool have_, .int .u32 from_, .int .u32 to_, .int .u32 left, .int .u32 next, .bool false], .int .i64 0]) ∧ Below w.heap.size w w' := by
  obtain ⟨k0, k1, hb0⟩ := two_new w (.cells #[.int .u32 code, .int .u32 head, .int .u32 at_, .int .u32 steps, .int .u32 moved, .bool have_, .int .u32 from_, .int .u32 to_, .int .u32 left, .int .u32 next, .bool asks] 24) (.cells #[.int .u32 0, .int .u32 0, .int .u32 0, .int .u32 0, .int .u32 0, .bool false, .int .u32 0, .int .u32 0, .int .u32 0, .int .u32 0, .bool false] 24)
  have K0 := Lib.hid k0
  have K1 := Lib.hid k1
  have HB0 := Lib.hid hb0
  clear k0 k1 hb0
  go_enter Tryd.func39, Tryd.ntmps39
  go_wp2_with fail
  refine (HC.out _).mono ?_
  rintro e w1 ⟨rfl, hb⟩
  have K2 := Lib.hid (keepB K0.out hb)
  clear K0
  have K3 := Lib.hid (keepB K1.out hb)
  clear K1
  have HB4 := Lib.hid (HB0.out.trans (hb.mono HB0.out.size))
  clear HB0
  clear hb
  have c5 := (cell_of_row _ _ 0 _ _ _ K2.out).trans (rfl : _ = some (.int .u32 code : Value))
  have c6 := (cell_of_row _ _ 1 _ _ _ K2.out).trans (rfl : _ = some (.int .u32 head : Value))
  have c7 := (cell_of_row _ _ 4 _ _ _ K2.out).trans (rfl : _ = some (.int .u32 moved : Value))
  clear c5 c6 c7
  have c8 := (cell_of_row _ _ 0 _ _ _ K2.out).trans (rfl : _ = some (.int .u32 code : Value))
  have c9 := (cell_of_row _ _ 1 _ _ _ K2.out).trans (rfl : _ = some (.int .u32 head : Value))
  have c10 := (cell_of_row _ _ 10 _ _ _ K2.out).trans (rfl : _ = some (.bool asks : Value))
  have f11 := fun j => frozen_of_row _ _ j _ _ K2.out
  have hkk : ((w1).setCell ⟨w.heap.size, 10, none⟩ (.bool false)).heap[w.heap.size]? = some (.cells #[.int .u32 code, .int .u32 head, .int .u32 at_, .int .u32 steps, .int .u32 moved, .bool have_, .int .u32 from_, .int .u32 to_, .int .u32 left, .int .u32 next, .bool false] 24 (0, 0)) := (set_cells (K2.out)).trans rfl
  have hx13 := Lib.hid (show KX (fun k => k = w.heap.size) w1 ((w1).setCell ⟨w.heap.size, 10, none⟩ (.bool false)) from (KX.refl (fun k => k = w.heap.size) w1).setCell (p := ⟨w.heap.size, 10, none⟩) (.inl rfl) _)
  go_upto_region 13 with fail
  generalize ((w1).setCell ⟨w.heap.size, 10, none⟩ (.bool false)) = w12 at hkk hx13 ⊢
  clear c8 c9 c10 f11
  have K14 := Lib.hid (hx13.out.heap K3.out (by omega))
  clear K3
  have K15 := Lib.hid hkk
  clear hkk K2
  have HB16 := Lib.hid (HB4.out.trans (hx13.out.below (B := w.heap.size) (fun k hk e => by omega) HB4.out.size))
  clear HB4 hx13
  have HO17 := Lib.hid (show (#[.int .u32 code, .int .u32 head, .int .u32 at_, .int .u32 steps, .int .u32 moved, .bool have_, .int .u32 from_, .int .u32 to_, .int .u32 left, .int .u32 next, .bool false] : Array Value).all (·.oneCell') = true by simp [Value.oneCell'])
  go_wp2_with (first | (refine wpList_load_row rfl 24 _ rfl (w.heap.size) rfl 24 #[.int .u32 code, .int .u32 head, .int .u32 at_, .int .u32 steps, .int .u32 moved, .bool have_, .int .u32 from_, .int .u32 to_, .int .u32 left, .int .u32 next, .bool false] (0, 0) _ K15.out Tryd.underlying24 rfl (by kernel_rfl) ?_) | (refine wpList_store_to rfl 24 _ _ rfl (w.heap.size + 1) #[.int .u32 code, .int .u32 head, .int .u32 at_, .int .u32 steps, .int .u32 moved, .bool have_, .int .u32 from_, .int .u32 to_, .int .u32 left, .int .u32 next, .bool false] rfl rfl 24 #[.int .u32 0, .int .u32 0, .int .u32 0, .int .u32 0, .int .u32 0, .bool false, .int .u32 0, .int .u32 0, .int .u32 0, .int .u32 0, .bool false] K14.out (by kernel_rfl) rfl HO17.out ?_))
  intro w18 hx19 hkk
  have K20 := Lib.hid (hx19.out.heap K15.out (by omega))
  clear K15
  have K21 := Lib.hid hkk
  clear hkk K14
  have HB22 := Lib.hid (HB16.out.trans (hx19.out.below (B := w.heap.size) (fun k hk e => by omega) HB16.out.size))
  clear HB16 hx19
  go_wp2_with fail
  exact bodyPost_ret (v := .tuple #[.agg #[.int .u32 code, .int .u32 head, .int .u32 at_, .int .u32 steps, .int .u32 moved, .bool have_, .int .u32 from_, .int .u32 to_, .int .u32 left, .int .u32 next, .bool false], .int .i64 0]) (results_cell_tmp Tryd.results39 _ _ (w.heap.size + 1) 24 #[.int .u32 code, .int .u32 head, .int .u32 at_, .int .u32 steps, .int .u32 moved, .bool have_, .int .u32 from_, .int .u32 to_, .int .u32 left, .int .u32 next, .bool false] (0, 0) _ rfl K21.out Tryd.underlying24 rfl (by kernel_rfl)) rfl ⟨rfl, HB22.out⟩

set_option maxRecDepth 100000 in
set_option maxHeartbeats 4000000 in
theorem r12_wr8 (head at_ steps moved : Nat) (have_ : Bool) (from_ to_ left next : Nat) (asks : Bool) (code : Nat) (v : Nat) (w : World) (h1 : v ≠ 1) (HC : Hid (∀ W, Calls Tryd.prog 41 #[.agg #[.int .u32 code, .int .u32 head, .int .u32 at_, .int .u32 steps, .int .u32 moved, .bool have_, .int .u32 from_, .int .u32 to_, .int .u32 left, .int .u32 next, .bool asks]] W fun e w' => e = .returned (.int .i64 0) ∧ Below W.heap.size W w')) : Calls Tryd.prog 39 #[.agg #[.int .u32 code, .int .u32 head, .int .u32 at_, .int .u32 steps, .int .u32 moved, .bool have_, .int .u32 from_, .int .u32 to_, .int .u32 left, .int .u32 next, .bool asks], .int .u32 16, .int .u32 v] w fun e w' => e = .returned (.tuple #[.agg #[.int .u32 code, .int .u32 head, .int .u32 at_, .int .u32 steps, .int .u32 moved, .bool have_, .int .u32 from_, .int .u32 to_, .int .u32 left, .int .u32 next, .bool asks], .int .i64 0]) ∧ Below w.heap.size w w' := by
  have b1 : ((v : Int) == 1) = false := by simp; omega
  clear h1
  obtain ⟨k0, k1, hb0⟩ := two_new w (.cells #[.int .u32 code, .int .u32 head, .int .u32 at_, .int .u32 steps, .int .u32 moved, .bool have_, .int .u32 from_, .int .u32 to_, .int .u32 left, .int .u32 next, .bool asks] 24) (.cells #[.int .u32 0, .int .u32 0, .int .u32 0, .int .u32 0, .int .u32 0, .bool false, .int .u32 0, .int .u32 0, .int .u32 0, .int .u32 0, .bool false] 24)
  have K0 := Lib.hid k0
  have K1 := Lib.hid k1
  have HB0 := Lib.hid hb0
  clear k0 k1 hb0
  go_enter Tryd.func39, Tryd.ntmps39
  go_wp2_with fail
  refine (HC.out _).mono ?_
  rintro e w1 ⟨rfl, hb⟩
  have K2 := Lib.hid (keepB K0.out hb)
  clear K0
  have K3 := Lib.hid (keepB K1.out hb)
  clear K1
  have HB4 := Lib.hid (HB0.out.trans (hb.mono HB0.out.size))
  clear HB0
  clear hb
  have c5 := (cell_of_row _ _ 0 _ _ _ K2.out).trans (rfl : _ = some (.int .u32 code : Value))
  have c6 := (cell_of_row _ _ 1 _ _ _ K2.out).trans (rfl : _ = some (.int .u32 head : Value))
  have c7 := (cell_of_row _ _ 4 _ _ _ K2.out).trans (rfl : _ = some (.int .u32 moved : Value))
  have HO8 := Lib.hid (show (#[.int .u32 code, .int .u32 head, .int .u32 at_, .int .u32 steps, .int .u32 moved, .bool have_, .int .u32 from_, .int .u32 to_, .int .u32 left, .int .u32 next, .bool asks] : Array Value).all (·.oneCell') = true by simp [Value.oneCell'])
  go_wp2_with (first | (refine wpList_load_row rfl 24 _ rfl (w.heap.size) rfl 24 #[.int .u32 code, .int .u32 head, .int .u32 at_, .int .u32 steps, .int .u32 moved, .bool have_, .int .u32 from_, .int .u32 to_, .int .u32 left, .int .u32 next, .bool asks] (0, 0) _ K2.out Tryd.underlying24 rfl (by kernel_rfl) ?_) | (refine wpList_store_to rfl 24 _ _ rfl (w.heap.size + 1) #[.int .u32 code, .int .u32 head, .int .u32 at_, .int .u32 steps, .int .u32 moved, .bool have_, .int .u32 from_, .int .u32 to_, .int .u32 left, .int .u32 next, .bool asks] rfl rfl 24 #[.int .u32 0, .int .u32 0, .int .u32 0, .int .u32 0, .int .u32 0, .bool false, .int .u32 0, .int .u32 0, .int .u32 0, .int .u32 0, .bool false] K3.out (by kernel_rfl) rfl HO8.out ?_))
  intro w9 hx10 hkk
  clear c5 c6 c7
  have K11 := Lib.hid (hx10.out.heap K2.out (by omega))
  clear K2
  have K12 := Lib.hid hkk
  clear hkk K3
  have HB13 := Lib.hid (HB4.out.trans (hx10.out.below (B := w.heap.size) (fun k hk e => by omega) HB4.out.size))
  clear HB4 hx10
  go_wp2_with fail
  exact bodyPost_ret (v := .tuple #[.agg #[.int .u32 code, .int .u32 head, .int .u32 at_, .int .u32 steps, .int .u32 moved, .bool have_, .int .u32 from_, .int .u32 to_, .int .u32 left, .int .u32 next, .bool asks], .int .i64 0]) (results_cell_tmp Tryd.results39 _ _ (w.heap.size + 1) 24 #[.int .u32 code, .int .u32 head, .int .u32 at_, .int .u32 steps, .int .u32 moved, .bool have_, .int .u32 from_, .int .u32 to_, .int .u32 left, .int .u32 next, .bool asks] (0, 0) _ rfl K12.out Tryd.underlying24 rfl (by kernel_rfl)) rfl ⟨rfl, HB13.out⟩

set_option maxRecDepth 100000 in
set_option maxHeartbeats 4000000 in
theorem r12_wr9 (head at_ steps moved : Nat) (have_ : Bool) (from_ to_ left next : Nat) (asks : Bool) (code : Nat) (at_x : Nat) (v : Nat) (w : World) (ha : at_x < 256) (hm : at_x % 4 = 0) (h0 : at_x ≠ 0) (h8 : at_x ≠ 8) (h16 : at_x ≠ 16) (HC : Hid (∀ W, Calls Tryd.prog 41 #[.agg #[.int .u32 code, .int .u32 head, .int .u32 at_, .int .u32 steps, .int .u32 moved, .bool have_, .int .u32 from_, .int .u32 to_, .int .u32 left, .int .u32 next, .bool asks]] W fun e w' => e = .returned (.int .i64 0) ∧ Below W.heap.size W w')) : Calls Tryd.prog 39 #[.agg #[.int .u32 code, .int .u32 head, .int .u32 at_, .int .u32 steps, .int .u32 moved, .bool have_, .int .u32 from_, .int .u32 to_, .int .u32 left, .int .u32 next, .bool asks], .int .u32 at_x, .int .u32 v] w fun e w' => e = .returned (.tuple #[.agg #[.int .u32 code, .int .u32 head, .int .u32 at_, .int .u32 steps, .int .u32 moved, .bool have_, .int .u32 from_, .int .u32 to_, .int .u32 left, .int .u32 next, .bool asks], .int .i64 0]) ∧ Below w.heap.size w w' := by
  have g1 : decide ((255 : Int) < (at_x : Int)) = false := decide_eq_false (by omega)
  have g2 : (((at_x : Int) % 4) != 0) = false := by simp; omega
  have b1 : ((at_x : Int) == 0) = false := by simp; omega
  have b2 : ((at_x : Int) == 8) = false := by simp; omega
  have b3 : ((at_x : Int) == 16) = false := by simp; omega
  clear ha hm h0 h8 h16
  obtain ⟨k0, k1, hb0⟩ := two_new w (.cells #[.int .u32 code, .int .u32 head, .int .u32 at_, .int .u32 steps, .int .u32 moved, .bool have_, .int .u32 from_, .int .u32 to_, .int .u32 left, .int .u32 next, .bool asks] 24) (.cells #[.int .u32 0, .int .u32 0, .int .u32 0, .int .u32 0, .int .u32 0, .bool false, .int .u32 0, .int .u32 0, .int .u32 0, .int .u32 0, .bool false] 24)
  have K0 := Lib.hid k0
  have K1 := Lib.hid k1
  have HB0 := Lib.hid hb0
  clear k0 k1 hb0
  go_enter Tryd.func39, Tryd.ntmps39
  go_wp2_with fail
  refine (HC.out _).mono ?_
  rintro e w1 ⟨rfl, hb⟩
  have K2 := Lib.hid (keepB K0.out hb)
  clear K0
  have K3 := Lib.hid (keepB K1.out hb)
  clear K1
  have HB4 := Lib.hid (HB0.out.trans (hb.mono HB0.out.size))
  clear HB0
  clear hb
  have c5 := (cell_of_row _ _ 0 _ _ _ K2.out).trans (rfl : _ = some (.int .u32 code : Value))
  have c6 := (cell_of_row _ _ 1 _ _ _ K2.out).trans (rfl : _ = some (.int .u32 head : Value))
  have c7 := (cell_of_row _ _ 4 _ _ _ K2.out).trans (rfl : _ = some (.int .u32 moved : Value))
  have HO8 := Lib.hid (show (#[.int .u32 code, .int .u32 head, .int .u32 at_, .int .u32 steps, .int .u32 moved, .bool have_, .int .u32 from_, .int .u32 to_, .int .u32 left, .int .u32 next, .bool asks] : Array Value).all (·.oneCell') = true by simp [Value.oneCell'])
  go_wp2_with (first | (refine wpList_load_row rfl 24 _ rfl (w.heap.size) rfl 24 #[.int .u32 code, .int .u32 head, .int .u32 at_, .int .u32 steps, .int .u32 moved, .bool have_, .int .u32 from_, .int .u32 to_, .int .u32 left, .int .u32 next, .bool asks] (0, 0) _ K2.out Tryd.underlying24 rfl (by kernel_rfl) ?_) | (refine wpList_store_to rfl 24 _ _ rfl (w.heap.size + 1) #[.int .u32 code, .int .u32 head, .int .u32 at_, .int .u32 steps, .int .u32 moved, .bool have_, .int .u32 from_, .int .u32 to_, .int .u32 left, .int .u32 next, .bool asks] rfl rfl 24 #[.int .u32 0, .int .u32 0, .int .u32 0, .int .u32 0, .int .u32 0, .bool false, .int .u32 0, .int .u32 0, .int .u32 0, .int .u32 0, .bool false] K3.out (by kernel_rfl) rfl HO8.out ?_))
  intro w9 hx10 hkk
  clear c5 c6 c7
  have K11 := Lib.hid (hx10.out.heap K2.out (by omega))
  clear K2
  have K12 := Lib.hid hkk
  clear hkk K3
  have HB13 := Lib.hid (HB4.out.trans (hx10.out.below (B := w.heap.size) (fun k hk e => by omega) HB4.out.size))
  clear HB4 hx10
  go_wp2_with fail
  exact bodyPost_ret (v := .tuple #[.agg #[.int .u32 code, .int .u32 head, .int .u32 at_, .int .u32 steps, .int .u32 moved, .bool have_, .int .u32 from_, .int .u32 to_, .int .u32 left, .int .u32 next, .bool asks], .int .i64 0]) (results_cell_tmp Tryd.results39 _ _ (w.heap.size + 1) 24 #[.int .u32 code, .int .u32 head, .int .u32 at_, .int .u32 steps, .int .u32 moved, .bool have_, .int .u32 from_, .int .u32 to_, .int .u32 left, .int .u32 next, .bool asks] (0, 0) _ rfl K12.out Tryd.underlying24 rfl (by kernel_rfl)) rfl ⟨rfl, HB13.out⟩

set_option maxRecDepth 100000 in
set_option maxHeartbeats 4000000 in
theorem r12_wr_bad (head at_ steps moved : Nat) (have_ : Bool) (from_ to_ left next : Nat) (asks : Bool) (code : Nat) (at_x : Nat) (v : Nat) (w : World)  (HC : Hid (∀ W, Calls Tryd.prog 41 #[.agg #[.int .u32 code, .int .u32 head, .int .u32 at_, .int .u32 steps, .int .u32 moved, .bool have_, .int .u32 from_, .int .u32 to_, .int .u32 left, .int .u32 next, .bool asks]] W fun e w' => e = .returned (.int .i64 1) ∧ Below W.heap.size W w')) : Calls Tryd.prog 39 #[.agg #[.int .u32 code, .int .u32 head, .int .u32 at_, .int .u32 steps, .int .u32 moved, .bool have_, .int .u32 from_, .int .u32 to_, .int .u32 left, .int .u32 next, .bool asks], .int .u32 at_x, .int .u32 v] w fun e w' => e = .returned (.tuple #[.agg #[.int .u32 0, .int .u32 0, .int .u32 0, .int .u32 0, .int .u32 0, .bool false, .int .u32 0, .int .u32 0, .int .u32 0, .int .u32 0, .bool false], .int .i64 1]) ∧ Below w.heap.size w w' := by
  obtain ⟨k0, k1, hb0⟩ := two_new w (.cells #[.int .u32 code, .int .u32 head, .int .u32 at_, .int .u32 steps, .int .u32 moved, .bool have_, .int .u32 from_, .int .u32 to_, .int .u32 left, .int .u32 next, .bool asks] 24) (.cells #[.int .u32 0, .int .u32 0, .int .u32 0, .int .u32 0, .int .u32 0, .bool false, .int .u32 0, .int .u32 0, .int .u32 0, .int .u32 0, .bool false] 24)
  have K0 := Lib.hid k0
  have K1 := Lib.hid k1
  have HB0 := Lib.hid hb0
  clear k0 k1 hb0
  go_enter Tryd.func39, Tryd.ntmps39
  go_wp2_with fail
  refine (HC.out _).mono ?_
  rintro e w1 ⟨rfl, hb⟩
  have K2 := Lib.hid (keepB K0.out hb)
  clear K0
  have K3 := Lib.hid (keepB K1.out hb)
  clear K1
  have HB4 := Lib.hid (HB0.out.trans (hb.mono HB0.out.size))
  clear HB0
  clear hb
  have c5 := (cell_of_row _ _ 0 _ _ _ K2.out).trans (rfl : _ = some (.int .u32 code : Value))
  have c6 := (cell_of_row _ _ 1 _ _ _ K2.out).trans (rfl : _ = some (.int .u32 head : Value))
  have c7 := (cell_of_row _ _ 4 _ _ _ K2.out).trans (rfl : _ = some (.int .u32 moved : Value))
  have HO8 := Lib.hid (show (#[.int .u32 0, .int .u32 0, .int .u32 0, .int .u32 0, .int .u32 0, .bool false, .int .u32 0, .int .u32 0, .int .u32 0, .int .u32 0, .bool false] : Array Value).all (·.oneCell') = true by simp [Value.oneCell'])
  go_wp2_with (refine wpList_store_to rfl 24 _ _ rfl (w.heap.size + 1) #[.int .u32 0, .int .u32 0, .int .u32 0, .int .u32 0, .int .u32 0, .bool false, .int .u32 0, .int .u32 0, .int .u32 0, .int .u32 0, .bool false] rfl rfl 24 #[.int .u32 0, .int .u32 0, .int .u32 0, .int .u32 0, .int .u32 0, .bool false, .int .u32 0, .int .u32 0, .int .u32 0, .int .u32 0, .bool false] K3.out (by kernel_rfl) rfl HO8.out ?_)
  intro w9 hx10 hkk
  clear c5 c6 c7
  have K11 := Lib.hid (hx10.out.heap K2.out (by omega))
  clear K2
  have K12 := Lib.hid hkk
  clear hkk K3
  have HB13 := Lib.hid (HB4.out.trans (hx10.out.below (B := w.heap.size) (fun k hk e => by omega) HB4.out.size))
  clear HB4 hx10
  go_wp2_with fail
  exact bodyPost_ret (v := .tuple #[.agg #[.int .u32 0, .int .u32 0, .int .u32 0, .int .u32 0, .int .u32 0, .bool false, .int .u32 0, .int .u32 0, .int .u32 0, .int .u32 0, .bool false], .int .i64 1]) (results_cell_tmp Tryd.results39 _ _ (w.heap.size + 1) 24 #[.int .u32 0, .int .u32 0, .int .u32 0, .int .u32 0, .int .u32 0, .bool false, .int .u32 0, .int .u32 0, .int .u32 0, .int .u32 0, .bool false] (0, 0) _ rfl K12.out Tryd.underlying24 rfl (by kernel_rfl)) rfl ⟨rfl, HB13.out⟩

set_option maxRecDepth 100000 in
set_option maxHeartbeats 4000000 in
theorem r12_wr_far (head at_ steps moved : Nat) (have_ : Bool) (from_ to_ left next : Nat) (asks : Bool) (code : Nat) (at_x : Nat) (v : Nat) (w : World) (ha : 256 ≤ at_x) (HC : Hid (∀ W, Calls Tryd.prog 41 #[.agg #[.int .u32 code, .int .u32 head, .int .u32 at_, .int .u32 steps, .int .u32 moved, .bool have_, .int .u32 from_, .int .u32 to_, .int .u32 left, .int .u32 next, .bool asks]] W fun e w' => e = .returned (.int .i64 0) ∧ Below W.heap.size W w')) : Calls Tryd.prog 39 #[.agg #[.int .u32 code, .int .u32 head, .int .u32 at_, .int .u32 steps, .int .u32 moved, .bool have_, .int .u32 from_, .int .u32 to_, .int .u32 left, .int .u32 next, .bool asks], .int .u32 at_x, .int .u32 v] w fun e w' => e = .returned (.tuple #[.agg #[.int .u32 0, .int .u32 0, .int .u32 0, .int .u32 0, .int .u32 0, .bool false, .int .u32 0, .int .u32 0, .int .u32 0, .int .u32 0, .bool false], .int .i64 20]) ∧ Below w.heap.size w w' := by
  have g1 : decide ((255 : Int) < (at_x : Int)) = true := decide_eq_true (by omega)
  clear ha
  obtain ⟨k0, k1, hb0⟩ := two_new w (.cells #[.int .u32 code, .int .u32 head, .int .u32 at_, .int .u32 steps, .int .u32 moved, .bool have_, .int .u32 from_, .int .u32 to_, .int .u32 left, .int .u32 next, .bool asks] 24) (.cells #[.int .u32 0, .int .u32 0, .int .u32 0, .int .u32 0, .int .u32 0, .bool false, .int .u32 0, .int .u32 0, .int .u32 0, .int .u32 0, .bool false] 24)
  have K0 := Lib.hid k0
  have K1 := Lib.hid k1
  have HB0 := Lib.hid hb0
  clear k0 k1 hb0
  go_enter Tryd.func39, Tryd.ntmps39
  go_wp2_with fail
  refine (HC.out _).mono ?_
  rintro e w1 ⟨rfl, hb⟩
  have K2 := Lib.hid (keepB K0.out hb)
  clear K0
  have K3 := Lib.hid (keepB K1.out hb)
  clear K1
  have HB4 := Lib.hid (HB0.out.trans (hb.mono HB0.out.size))
  clear HB0
  clear hb
  have c5 := (cell_of_row _ _ 0 _ _ _ K2.out).trans (rfl : _ = some (.int .u32 code : Value))
  have c6 := (cell_of_row _ _ 1 _ _ _ K2.out).trans (rfl : _ = some (.int .u32 head : Value))
  have c7 := (cell_of_row _ _ 4 _ _ _ K2.out).trans (rfl : _ = some (.int .u32 moved : Value))
  have HO8 := Lib.hid (show (#[.int .u32 0, .int .u32 0, .int .u32 0, .int .u32 0, .int .u32 0, .bool false, .int .u32 0, .int .u32 0, .int .u32 0, .int .u32 0, .bool false] : Array Value).all (·.oneCell') = true by simp [Value.oneCell'])
  go_wp2_with (refine wpList_store_to rfl 24 _ _ rfl (w.heap.size + 1) #[.int .u32 0, .int .u32 0, .int .u32 0, .int .u32 0, .int .u32 0, .bool false, .int .u32 0, .int .u32 0, .int .u32 0, .int .u32 0, .bool false] rfl rfl 24 #[.int .u32 0, .int .u32 0, .int .u32 0, .int .u32 0, .int .u32 0, .bool false, .int .u32 0, .int .u32 0, .int .u32 0, .int .u32 0, .bool false] K3.out (by kernel_rfl) rfl HO8.out ?_)
  intro w9 hx10 hkk
  clear c5 c6 c7
  have K11 := Lib.hid (hx10.out.heap K2.out (by omega))
  clear K2
  have K12 := Lib.hid hkk
  clear hkk K3
  have HB13 := Lib.hid (HB4.out.trans (hx10.out.below (B := w.heap.size) (fun k hk e => by omega) HB4.out.size))
  clear HB4 hx10
  go_wp2_with fail
  exact bodyPost_ret (v := .tuple #[.agg #[.int .u32 0, .int .u32 0, .int .u32 0, .int .u32 0, .int .u32 0, .bool false, .int .u32 0, .int .u32 0, .int .u32 0, .int .u32 0, .bool false], .int .i64 20]) (results_cell_tmp Tryd.results39 _ _ (w.heap.size + 1) 24 #[.int .u32 0, .int .u32 0, .int .u32 0, .int .u32 0, .int .u32 0, .bool false, .int .u32 0, .int .u32 0, .int .u32 0, .int .u32 0, .bool false] (0, 0) _ rfl K12.out Tryd.underlying24 rfl (by kernel_rfl)) rfl ⟨rfl, HB13.out⟩

set_option maxRecDepth 100000 in
set_option maxHeartbeats 4000000 in
theorem r12_wr_odd (head at_ steps moved : Nat) (have_ : Bool) (from_ to_ left next : Nat) (asks : Bool) (code : Nat) (at_x : Nat) (v : Nat) (w : World) (ha : at_x < 256) (hm : at_x % 4 ≠ 0) (HC : Hid (∀ W, Calls Tryd.prog 41 #[.agg #[.int .u32 code, .int .u32 head, .int .u32 at_, .int .u32 steps, .int .u32 moved, .bool have_, .int .u32 from_, .int .u32 to_, .int .u32 left, .int .u32 next, .bool asks]] W fun e w' => e = .returned (.int .i64 0) ∧ Below W.heap.size W w')) : Calls Tryd.prog 39 #[.agg #[.int .u32 code, .int .u32 head, .int .u32 at_, .int .u32 steps, .int .u32 moved, .bool have_, .int .u32 from_, .int .u32 to_, .int .u32 left, .int .u32 next, .bool asks], .int .u32 at_x, .int .u32 v] w fun e w' => e = .returned (.tuple #[.agg #[.int .u32 0, .int .u32 0, .int .u32 0, .int .u32 0, .int .u32 0, .bool false, .int .u32 0, .int .u32 0, .int .u32 0, .int .u32 0, .bool false], .int .i64 20]) ∧ Below w.heap.size w w' := by
  have g1 : decide ((255 : Int) < (at_x : Int)) = false := decide_eq_false (by omega)
  have g2 : (((at_x : Int) % 4) != 0) = true := by simp; omega
  clear ha hm
  obtain ⟨k0, k1, hb0⟩ := two_new w (.cells #[.int .u32 code, .int .u32 head, .int .u32 at_, .int .u32 steps, .int .u32 moved, .bool have_, .int .u32 from_, .int .u32 to_, .int .u32 left, .int .u32 next, .bool asks] 24) (.cells #[.int .u32 0, .int .u32 0, .int .u32 0, .int .u32 0, .int .u32 0, .bool false, .int .u32 0, .int .u32 0, .int .u32 0, .int .u32 0, .bool false] 24)
  have K0 := Lib.hid k0
  have K1 := Lib.hid k1
  have HB0 := Lib.hid hb0
  clear k0 k1 hb0
  go_enter Tryd.func39, Tryd.ntmps39
  go_wp2_with fail
  refine (HC.out _).mono ?_
  rintro e w1 ⟨rfl, hb⟩
  have K2 := Lib.hid (keepB K0.out hb)
  clear K0
  have K3 := Lib.hid (keepB K1.out hb)
  clear K1
  have HB4 := Lib.hid (HB0.out.trans (hb.mono HB0.out.size))
  clear HB0
  clear hb
  have c5 := (cell_of_row _ _ 0 _ _ _ K2.out).trans (rfl : _ = some (.int .u32 code : Value))
  have c6 := (cell_of_row _ _ 1 _ _ _ K2.out).trans (rfl : _ = some (.int .u32 head : Value))
  have c7 := (cell_of_row _ _ 4 _ _ _ K2.out).trans (rfl : _ = some (.int .u32 moved : Value))
  have HO8 := Lib.hid (show (#[.int .u32 0, .int .u32 0, .int .u32 0, .int .u32 0, .int .u32 0, .bool false, .int .u32 0, .int .u32 0, .int .u32 0, .int .u32 0, .bool false] : Array Value).all (·.oneCell') = true by simp [Value.oneCell'])
  go_wp2_with (refine wpList_store_to rfl 24 _ _ rfl (w.heap.size + 1) #[.int .u32 0, .int .u32 0, .int .u32 0, .int .u32 0, .int .u32 0, .bool false, .int .u32 0, .int .u32 0, .int .u32 0, .int .u32 0, .bool false] rfl rfl 24 #[.int .u32 0, .int .u32 0, .int .u32 0, .int .u32 0, .int .u32 0, .bool false, .int .u32 0, .int .u32 0, .int .u32 0, .int .u32 0, .bool false] K3.out (by kernel_rfl) rfl HO8.out ?_)
  intro w9 hx10 hkk
  clear c5 c6 c7
  have K11 := Lib.hid (hx10.out.heap K2.out (by omega))
  clear K2
  have K12 := Lib.hid hkk
  clear hkk K3
  have HB13 := Lib.hid (HB4.out.trans (hx10.out.below (B := w.heap.size) (fun k hk e => by omega) HB4.out.size))
  clear HB4 hx10
  go_wp2_with fail
  exact bodyPost_ret (v := .tuple #[.agg #[.int .u32 0, .int .u32 0, .int .u32 0, .int .u32 0, .int .u32 0, .bool false, .int .u32 0, .int .u32 0, .int .u32 0, .int .u32 0, .bool false], .int .i64 20]) (results_cell_tmp Tryd.results39 _ _ (w.heap.size + 1) 24 #[.int .u32 0, .int .u32 0, .int .u32 0, .int .u32 0, .int .u32 0, .bool false, .int .u32 0, .int .u32 0, .int .u32 0, .int .u32 0, .bool false] (0, 0) _ rfl K12.out Tryd.underlying24 rfl (by kernel_rfl)) rfl ⟨rfl, HB13.out⟩

def Dst.rerr (s : Dst) (a : Nat) : Nat := if ¬ s.okP then 1 else if 256 ≤ a ∨ a % 4 ≠ 0 then 20 else 0
def Dst.wrAny (s : Dst) (a v : Nat) : Dst := if s.rerr a = 0 then s.wr a v else Dst.zero
theorem rerr_bad {s : Dst} (a : Nat) (h : ¬ s.okP) : s.rerr a = 1 := by unfold Dst.rerr; rw [if_pos h]
theorem rerr_bus {s : Dst} {a : Nat} (h : s.okP) (ha : 256 ≤ a ∨ a % 4 ≠ 0) : s.rerr a = 20 := by unfold Dst.rerr; rw [if_neg (not_not_intro h), if_pos ha]
theorem rerr_ok {s : Dst} {a : Nat} (h : s.okP) (ha : a < 256) (hm : a % 4 = 0) : s.rerr a = 0 := by unfold Dst.rerr; rw [if_neg (not_not_intro h), if_neg (by omega)]
theorem dma_WriteAny (s : Dst) (a v : Nat) (w : World) (ha : a < 4294967296) :
    Calls Tryd.prog 18 #[.agg s.c, .int .u32 a, .int .u32 v] w fun e w' => e = .returned (.tuple #[.agg (s.wrAny a v).c, errV (s.rerr a)]) ∧ Below w.heap.size w w' := by
  unfold Dst.wrAny
  by_cases hs : s.okP
  · by_cases hb : 256 ≤ a ∨ a % 4 ≠ 0
    · rw [rerr_bus hs hb, if_neg (by omega)]
      exact dma_Write_bus s a v w ha hs hb
    · rw [rerr_ok hs (by omega) (by omega), if_pos rfl]
      exact dma_Write_ok s a v w hs (by omega) (by omega)
  · rw [rerr_bad a hs, if_neg (by omega)]
    exact dma_Write_state s a v w ha hs
theorem ref12_WriteAny (s : Dst) (a v : Nat) (w : World) :
    Calls Tryd.prog 39 #[.agg s.c, .int .u32 a, .int .u32 v] w fun e w' => e = .returned (.tuple #[.agg (s.wrAny a v).c, .int .i64 (s.rerr a : Nat)]) ∧ Below w.heap.size w w' := by
  have HC := Lib.hid (fun W => ref12_Check s W)
  unfold Dst.wrAny
  by_cases hs : s.okP
  · rw [if_pos hs] at HC
    by_cases hb : 256 ≤ a ∨ a % 4 ≠ 0
    · rw [rerr_bus hs hb, if_neg (by omega)]
      obtain ⟨code, head, at_, steps, moved, have_, from_, to_, left, next, asks⟩ := s
      by_cases hf : 256 ≤ a
      · exact r12_wr_far head at_ steps moved have_ from_ to_ left next asks code a v w hf HC
      · exact r12_wr_odd head at_ steps moved have_ from_ to_ left next asks code a v w (by omega) (by omega) HC
    · rw [rerr_ok hs (by omega) (by omega), if_pos rfl]
      obtain ⟨code, head, at_, steps, moved, have_, from_, to_, left, next, asks⟩ := s
      unfold Dst.wr
      clear hs
      by_cases h0 : a = 0
      · subst h0
        by_cases h1 : v = 1
        · subst h1
          by_cases hc : code = 1
          · rw [if_neg (fun h => h.2.2 hc), if_neg (by omega), if_neg (by omega), if_neg (by omega)]
            subst hc
            exact r12_wr2 head at_ steps moved have_ from_ to_ left next asks w HC
          · rw [if_pos ⟨rfl, rfl, hc⟩]
            exact r12_wr1 head at_ steps moved have_ from_ to_ left next asks code w hc HC
        · by_cases h2 : v = 2
          · subst h2
            rw [if_neg (by omega), if_pos ⟨rfl, rfl⟩]
            exact r12_wr3 head at_ steps moved have_ from_ to_ left next asks code w HC
          · rw [if_neg (by omega), if_neg (by omega), if_neg (by omega), if_neg (by omega)]
            exact r12_wr4 head at_ steps moved have_ from_ to_ left next asks code v w h1 h2 HC
      · by_cases h8 : a = 8
        · subst h8
          by_cases hc : code = 1
          · rw [if_neg (by omega), if_neg (by omega), if_neg (fun h => h.2 hc), if_neg (by omega)]
            subst hc
            exact r12_wr6 head at_ steps moved have_ from_ to_ left next asks v w HC
          · rw [if_neg (by omega), if_neg (by omega), if_pos ⟨rfl, hc⟩]
            exact r12_wr5 head at_ steps moved have_ from_ to_ left next asks code v w hc HC
        · by_cases h16 : a = 16
          · subst h16
            by_cases h1 : v = 1
            · subst h1
              rw [if_neg (by omega), if_neg (by omega), if_neg (by omega), if_pos ⟨rfl, rfl⟩]
              exact r12_wr7 head at_ steps moved have_ from_ to_ left next asks code w HC
            · rw [if_neg (by omega), if_neg (by omega), if_neg (by omega), if_neg (by omega)]
              exact r12_wr8 head at_ steps moved have_ from_ to_ left next asks code v w h1 HC
          · rw [if_neg (by omega), if_neg (by omega), if_neg (by omega), if_neg (by omega)]
            exact r12_wr9 head at_ steps moved have_ from_ to_ left next asks code a v w (by omega) (by omega) h0 h8 h16 HC
  · rw [if_neg hs] at HC
    rw [rerr_bad a hs, if_neg (by omega)]
    obtain ⟨code, head, at_, steps, moved, have_, from_, to_, left, next, asks⟩ := s
    exact r12_wr_bad head at_ steps moved have_ from_ to_ left next asks code a v w HC

end Go.Proofs.YtcakcfeipfjmpaaDoor
