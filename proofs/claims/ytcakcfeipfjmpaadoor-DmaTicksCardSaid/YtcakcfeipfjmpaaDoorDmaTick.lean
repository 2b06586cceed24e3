/-
Tick of package dma, walked.
Condition: the table of regions of package bus reads as its text lays it.
-/
import Derived.Test.YtcakcfeipfjmpaaDoorDmaSpec
namespace Go.Proofs.YtcakcfeipfjmpaaDoor
open Go.RowKit
set_option linter.unusedVariables false

set_option maxRecDepth 100000 in
set_option maxHeartbeats 4000000 in
theorem dma_tick_bad (head at_ steps moved : Nat) (have_ : Bool) (from_ to_ left next code : Nat) (asks : Bool) (w : World) (p : Option Addr) (HC : Hid (∀ W, Calls Tryd.prog 15 #[.agg #[.int .u32 code, .int .u32 head, .int .u32 at_, .int .u32 steps, .int .u32 moved, .bool have_, .int .u32 from_, .int .u32 to_, .int .u32 left, .int .u32 next, .bool asks]] W fun e w' => e = .returned (errV 1) ∧ Below W.heap.size W w')) :
    Calls Tryd.prog 11 #[.agg #[.int .u32 code, .int .u32 head, .int .u32 at_, .int .u32 steps, .int .u32 moved, .bool have_, .int .u32 from_, .int .u32 to_, .int .u32 left, .int .u32 next, .bool asks], .pointer p] w fun e w' => e = .returned (.agg #[.int .u32 code, .int .u32 head, .int .u32 at_, .int .u32 steps, .int .u32 moved, .bool have_, .int .u32 from_, .int .u32 to_, .int .u32 left, .int .u32 next, .bool asks]) ∧ Below w.heap.size w w' := by
  rw [errV_1] at HC
  obtain ⟨k0, k1, hb0⟩ := two_new w (.cells #[.int .u32 code, .int .u32 head, .int .u32 at_, .int .u32 steps, .int .u32 moved, .bool have_, .int .u32 from_, .int .u32 to_, .int .u32 left, .int .u32 next, .bool asks] 33) (.cells #[.int .u32 0, .int .u32 0, .int .u32 0, .int .u32 0, .int .u32 0, .bool false, .int .u32 0, .int .u32 0, .int .u32 0, .int .u32 0, .bool false] 33)
  have K0 := Lib.hid k0
  have K1 := Lib.hid k1
  have HB0 := Lib.hid hb0
  clear k0 k1 hb0
  go_enter Tryd.func11, Tryd.ntmps11
  go_wp2_with fail
  refine (HC.out _).mono ?_
  rintro e w1 ⟨rfl, hb⟩
  have K2 := Lib.hid (keepB K0.out hb)
  clear K0
  have K3 := Lib.hid (keepB K1.out hb)
  clear K1
  have HB4 := Lib.hid (HB0.out.trans (hb.mono HB0.out.size))
  clear HB0
  clear hb
  have HO5 := Lib.hid (show (#[.int .u32 code, .int .u32 head, .int .u32 at_, .int .u32 steps, .int .u32 moved, .bool have_, .int .u32 from_, .int .u32 to_, .int .u32 left, .int .u32 next, .bool asks] : Array Value).all (·.oneCell') = true by simp [Value.oneCell'])
  go_wp2_with (first | go_skip | (refine wpList_load_row rfl 33 _ rfl (w.heap.size) rfl 33 #[.int .u32 code, .int .u32 head, .int .u32 at_, .int .u32 steps, .int .u32 moved, .bool have_, .int .u32 from_, .int .u32 to_, .int .u32 left, .int .u32 next, .bool asks] (0, 0) _ K2.out Tryd.underlying33 rfl (by kernel_rfl) ?_) | (refine wpList_store_to rfl 33 _ _ rfl (w.heap.size + 1) #[.int .u32 code, .int .u32 head, .int .u32 at_, .int .u32 steps, .int .u32 moved, .bool have_, .int .u32 from_, .int .u32 to_, .int .u32 left, .int .u32 next, .bool asks] rfl rfl 33 #[.int .u32 0, .int .u32 0, .int .u32 0, .int .u32 0, .int .u32 0, .bool false, .int .u32 0, .int .u32 0, .int .u32 0, .int .u32 0, .bool false] K3.out (by kernel_rfl) rfl HO5.out ?_))
  intro w6 hx7 hkk
  have K8 := Lib.hid (hx7.out.heap K2.out (by omega))
  clear K2
  have K9 := Lib.hid hkk
  clear hkk K3
  have HB10 := Lib.hid (HB4.out.trans (hx7.out.below (B := w.heap.size) (fun k hk e => by omega) HB4.out.size))
  clear HB4 hx7
  go_wp2_with fail
  exact bodyPost_ret (v := .agg #[.int .u32 code, .int .u32 head, .int .u32 at_, .int .u32 steps, .int .u32 moved, .bool have_, .int .u32 from_, .int .u32 to_, .int .u32 left, .int .u32 next, .bool asks]) (results_cell_row Tryd.results11 _ _ (w.heap.size + 1) 33 #[.int .u32 code, .int .u32 head, .int .u32 at_, .int .u32 steps, .int .u32 moved, .bool have_, .int .u32 from_, .int .u32 to_, .int .u32 left, .int .u32 next, .bool asks] (0, 0) _ rfl K9.out Tryd.underlying33 rfl (by kernel_rfl)) rfl ⟨rfl, HB10.out⟩

set_option maxRecDepth 100000 in
set_option maxHeartbeats 4000000 in
theorem dma_tick_idle (head at_ steps moved : Nat) (have_ : Bool) (from_ to_ left next code : Nat) (asks : Bool) (w : World) (p : Option Addr) (hc : code ≠ 1) (HC : Hid (∀ W, Calls Tryd.prog 15 #[.agg #[.int .u32 code, .int .u32 head, .int .u32 at_, .int .u32 steps, .int .u32 moved, .bool have_, .int .u32 from_, .int .u32 to_, .int .u32 left, .int .u32 next, .bool asks]] W fun e w' => e = .returned (.nilIface) ∧ Below W.heap.size W w')) :
    Calls Tryd.prog 11 #[.agg #[.int .u32 code, .int .u32 head, .int .u32 at_, .int .u32 steps, .int .u32 moved, .bool have_, .int .u32 from_, .int .u32 to_, .int .u32 left, .int .u32 next, .bool asks], .pointer p] w fun e w' => e = .returned (.agg #[.int .u32 code, .int .u32 head, .int .u32 at_, .int .u32 steps, .int .u32 moved, .bool have_, .int .u32 from_, .int .u32 to_, .int .u32 left, .int .u32 next, .bool asks]) ∧ Below w.heap.size w w' := by
  have b1 : ((code : Int) != 1) = true := by simp; omega
  clear hc
  obtain ⟨k0, k1, hb0⟩ := two_new w (.cells #[.int .u32 code, .int .u32 head, .int .u32 at_, .int .u32 steps, .int .u32 moved, .bool have_, .int .u32 from_, .int .u32 to_, .int .u32 left, .int .u32 next, .bool asks] 33) (.cells #[.int .u32 0, .int .u32 0, .int .u32 0, .int .u32 0, .int .u32 0, .bool false, .int .u32 0, .int .u32 0, .int .u32 0, .int .u32 0, .bool false] 33)
  have K0 := Lib.hid k0
  have K1 := Lib.hid k1
  have HB0 := Lib.hid hb0
  clear k0 k1 hb0
  go_enter Tryd.func11, Tryd.ntmps11
  go_wp2_with fail
  refine (HC.out _).mono ?_
  rintro e w1 ⟨rfl, hb⟩
  have K2 := Lib.hid (keepB K0.out hb)
  clear K0
  have K3 := Lib.hid (keepB K1.out hb)
  clear K1
  have HB4 := Lib.hid (HB0.out.trans (hb.mono HB0.out.size))
  clear HB0
  clear hb
  have c5 := (cell_of_row _ _ 0 _ _ _ K2.out).trans (rfl : _ = some (.int .u32 code : Value))
  have HO6 := Lib.hid (show (#[.int .u32 code, .int .u32 head, .int .u32 at_, .int .u32 steps, .int .u32 moved, .bool have_, .int .u32 from_, .int .u32 to_, .int .u32 left, .int .u32 next, .bool asks] : Array Value).all (·.oneCell') = true by simp [Value.oneCell'])
  go_wp2_with (first | go_skip | (refine wpList_load_row rfl 33 _ rfl (w.heap.size) rfl 33 #[.int .u32 code, .int .u32 head, .int .u32 at_, .int .u32 steps, .int .u32 moved, .bool have_, .int .u32 from_, .int .u32 to_, .int .u32 left, .int .u32 next, .bool asks] (0, 0) _ K2.out Tryd.underlying33 rfl (by kernel_rfl) ?_) | (refine wpList_store_to rfl 33 _ _ rfl (w.heap.size + 1) #[.int .u32 code, .int .u32 head, .int .u32 at_, .int .u32 steps, .int .u32 moved, .bool have_, .int .u32 from_, .int .u32 to_, .int .u32 left, .int .u32 next, .bool asks] rfl rfl 33 #[.int .u32 0, .int .u32 0, .int .u32 0, .int .u32 0, .int .u32 0, .bool false, .int .u32 0, .int .u32 0, .int .u32 0, .int .u32 0, .bool false] K3.out (by kernel_rfl) rfl HO6.out ?_))
  intro w7 hx8 hkk
  clear c5
  have K9 := Lib.hid (hx8.out.heap K2.out (by omega))
  clear K2
  have K10 := Lib.hid hkk
  clear hkk K3
  have HB11 := Lib.hid (HB4.out.trans (hx8.out.below (B := w.heap.size) (fun k hk e => by omega) HB4.out.size))
  clear HB4 hx8
  go_wp2_with fail
  exact bodyPost_ret (v := .agg #[.int .u32 code, .int .u32 head, .int .u32 at_, .int .u32 steps, .int .u32 moved, .bool have_, .int .u32 from_, .int .u32 to_, .int .u32 left, .int .u32 next, .bool asks]) (results_cell_row Tryd.results11 _ _ (w.heap.size + 1) 33 #[.int .u32 code, .int .u32 head, .int .u32 at_, .int .u32 steps, .int .u32 moved, .bool have_, .int .u32 from_, .int .u32 to_, .int .u32 left, .int .u32 next, .bool asks] (0, 0) _ rfl K10.out Tryd.underlying33 rfl (by kernel_rfl)) rfl ⟨rfl, HB11.out⟩

set_option maxRecDepth 100000 in
set_option maxHeartbeats 4000000 in
theorem dma_tick_nil (head at_ steps moved : Nat) (have_ : Bool) (from_ to_ left next : Nat) (asks : Bool) (w : World)  (HC : Hid (∀ W, Calls Tryd.prog 15 #[.agg #[.int .u32 1, .int .u32 head, .int .u32 at_, .int .u32 steps, .int .u32 moved, .bool have_, .int .u32 from_, .int .u32 to_, .int .u32 left, .int .u32 next, .bool asks]] W fun e w' => e = .returned (.nilIface) ∧ Below W.heap.size W w')) :
    Calls Tryd.prog 11 #[.agg #[.int .u32 1, .int .u32 head, .int .u32 at_, .int .u32 steps, .int .u32 moved, .bool have_, .int .u32 from_, .int .u32 to_, .int .u32 left, .int .u32 next, .bool asks], .pointer none] w fun e w' => e = .returned (.agg #[.int .u32 1, .int .u32 head, .int .u32 at_, .int .u32 steps, .int .u32 moved, .bool have_, .int .u32 from_, .int .u32 to_, .int .u32 left, .int .u32 next, .bool asks]) ∧ Below w.heap.size w w' := by
  obtain ⟨k0, k1, hb0⟩ := two_new w (.cells #[.int .u32 1, .int .u32 head, .int .u32 at_, .int .u32 steps, .int .u32 moved, .bool have_, .int .u32 from_, .int .u32 to_, .int .u32 left, .int .u32 next, .bool asks] 33) (.cells #[.int .u32 0, .int .u32 0, .int .u32 0, .int .u32 0, .int .u32 0, .bool false, .int .u32 0, .int .u32 0, .int .u32 0, .int .u32 0, .bool false] 33)
  have K0 := Lib.hid k0
  have K1 := Lib.hid k1
  have HB0 := Lib.hid hb0
  clear k0 k1 hb0
  go_enter Tryd.func11, Tryd.ntmps11
  go_wp2_with fail
  refine (HC.out _).mono ?_
  rintro e w1 ⟨rfl, hb⟩
  have K2 := Lib.hid (keepB K0.out hb)
  clear K0
  have K3 := Lib.hid (keepB K1.out hb)
  clear K1
  have HB4 := Lib.hid (HB0.out.trans (hb.mono HB0.out.size))
  clear HB0
  clear hb
  have c5 := (cell_of_row _ _ 0 _ _ _ K2.out).trans (rfl : _ = some (.int .u32 1 : Value))
  have HO6 := Lib.hid (show (#[.int .u32 1, .int .u32 head, .int .u32 at_, .int .u32 steps, .int .u32 moved, .bool have_, .int .u32 from_, .int .u32 to_, .int .u32 left, .int .u32 next, .bool asks] : Array Value).all (·.oneCell') = true by simp [Value.oneCell'])
  go_wp2_with (first | go_skip | (refine wpList_load_row rfl 33 _ rfl (w.heap.size) rfl 33 #[.int .u32 1, .int .u32 head, .int .u32 at_, .int .u32 steps, .int .u32 moved, .bool have_, .int .u32 from_, .int .u32 to_, .int .u32 left, .int .u32 next, .bool asks] (0, 0) _ K2.out Tryd.underlying33 rfl (by kernel_rfl) ?_) | (refine wpList_store_to rfl 33 _ _ rfl (w.heap.size + 1) #[.int .u32 1, .int .u32 head, .int .u32 at_, .int .u32 steps, .int .u32 moved, .bool have_, .int .u32 from_, .int .u32 to_, .int .u32 left, .int .u32 next, .bool asks] rfl rfl 33 #[.int .u32 0, .int .u32 0, .int .u32 0, .int .u32 0, .int .u32 0, .bool false, .int .u32 0, .int .u32 0, .int .u32 0, .int .u32 0, .bool false] K3.out (by kernel_rfl) rfl HO6.out ?_))
  intro w7 hx8 hkk
  clear c5
  have K9 := Lib.hid (hx8.out.heap K2.out (by omega))
  clear K2
  have K10 := Lib.hid hkk
  clear hkk K3
  have HB11 := Lib.hid (HB4.out.trans (hx8.out.below (B := w.heap.size) (fun k hk e => by omega) HB4.out.size))
  clear HB4 hx8
  go_wp2_with fail
  exact bodyPost_ret (v := .agg #[.int .u32 1, .int .u32 head, .int .u32 at_, .int .u32 steps, .int .u32 moved, .bool have_, .int .u32 from_, .int .u32 to_, .int .u32 left, .int .u32 next, .bool asks]) (results_cell_row Tryd.results11 _ _ (w.heap.size + 1) 33 #[.int .u32 1, .int .u32 head, .int .u32 at_, .int .u32 steps, .int .u32 moved, .bool have_, .int .u32 from_, .int .u32 to_, .int .u32 left, .int .u32 next, .bool asks] (0, 0) _ rfl K10.out Tryd.underlying33 rfl (by kernel_rfl)) rfl ⟨rfl, HB11.out⟩

set_option maxRecDepth 100000 in
set_option maxHeartbeats 4000000 in
theorem dma_tick_move (head at_ steps moved : Nat) (from_ to_ left next : Nat) (asks : Bool) (w : World) {g : Nat} {m m2 : Mm} {F : Nat → Prop} (HF0 : Hid (∀ k, F k → k < w.heap.size)) (HC : Hid (∀ W, Calls Tryd.prog 15 #[.agg #[.int .u32 1, .int .u32 head, .int .u32 at_, .int .u32 steps, .int .u32 moved, .bool true, .int .u32 from_, .int .u32 to_, .int .u32 left, .int .u32 next, .bool asks]] W fun e w' => e = .returned (.nilIface) ∧ Below W.heap.size W w'))
    (a0 a1 a2 a3 a4 : Nat) (a5 : Bool) (a6 a7 a8 a9 : Nat) (a10 : Bool) (HM : Hid (∀ W, Below w.heap.size w W → Calls Tryd.prog 52 #[.agg #[.int .u32 1, .int .u32 head, .int .u32 at_, .int .u32 steps, .int .u32 moved, .bool true, .int .u32 from_, .int .u32 to_, .int .u32 left, .int .u32 next, .bool asks], .pointer (some ⟨g, 0, none⟩)] W fun e w' => e = .returned (.agg #[.int .u32 a0, .int .u32 a1, .int .u32 a2, .int .u32 a3, .int .u32 a4, .bool a5, .int .u32 a6, .int .u32 a7, .int .u32 a8, .int .u32 a9, .bool a10]) ∧ ∃ F1, RamIs w' g m2 F1 ∧ MemStep F F1 W w')) :
    Calls Tryd.prog 11 #[.agg #[.int .u32 1, .int .u32 head, .int .u32 at_, .int .u32 steps, .int .u32 moved, .bool true, .int .u32 from_, .int .u32 to_, .int .u32 left, .int .u32 next, .bool asks], .pointer (some ⟨g, 0, none⟩)] w fun e w' => e = .returned (.agg #[.int .u32 a0, .int .u32 a1, .int .u32 a2, .int .u32 a3, .int .u32 a4, .bool a5, .int .u32 a6, .int .u32 a7, .int .u32 a8, .int .u32 a9, .bool a10]) ∧ ∃ F', RamIs w' g m2 F' ∧ MemStep F F' w w' := by
  obtain ⟨k0, k1, hb0⟩ := two_new w (.cells #[.int .u32 1, .int .u32 head, .int .u32 at_, .int .u32 steps, .int .u32 moved, .bool true, .int .u32 from_, .int .u32 to_, .int .u32 left, .int .u32 next, .bool asks] 33) (.cells #[.int .u32 0, .int .u32 0, .int .u32 0, .int .u32 0, .int .u32 0, .bool false, .int .u32 0, .int .u32 0, .int .u32 0, .int .u32 0, .bool false] 33)
  have K0 := Lib.hid k0
  have K1 := Lib.hid k1
  have HB0 := Lib.hid hb0
  clear k0 k1 hb0
  go_enter Tryd.func11, Tryd.ntmps11
  go_wp2_with fail
  refine (HC.out _).mono ?_
  rintro e w1 ⟨rfl, hb⟩
  have K2 := Lib.hid (keepB K0.out hb)
  clear K0
  have K3 := Lib.hid (keepB K1.out hb)
  clear K1
  have HB4 := Lib.hid (HB0.out.trans (hb.mono HB0.out.size))
  clear HB0
  clear hb
  have c5 := (cell_of_row _ _ 0 _ _ _ K2.out).trans (rfl : _ = some (.int .u32 1 : Value))
  have c6 := (cell_of_row _ _ 5 _ _ _ K2.out).trans (rfl : _ = some (.bool true : Value))
  go_wp2_with (first | go_skip | (refine wpList_load_row rfl 33 _ rfl (w.heap.size) rfl 33 #[.int .u32 1, .int .u32 head, .int .u32 at_, .int .u32 steps, .int .u32 moved, .bool true, .int .u32 from_, .int .u32 to_, .int .u32 left, .int .u32 next, .bool asks] (0, 0) _ K2.out Tryd.underlying33 rfl (by kernel_rfl) ?_))
  refine (HM.out _ HB4.out).mono ?_
  rintro e w9 ⟨rfl, F1, h1, h2⟩
  clear c5 c6
  have HNA : Hid (¬ F1 w.heap.size) := Lib.hid (h2.off (lt_heap K2.out) (fun hf => absurd (HF0.out _ hf) (Nat.lt_irrefl _)))
  have HNB : Hid (¬ F1 (w.heap.size + 1)) := Lib.hid (h2.off (lt_heap K3.out) (fun hf => by have := HF0.out _ hf; omega))
  have KA := Lib.hid (h2.heap K2.out (fun hf => by have := HF0.out _ hf; omega))
  clear K2
  have KB := Lib.hid (h2.heap K3.out (fun hf => by have := HF0.out _ hf; omega))
  clear K3
  have HBM := Lib.hid (And.intro h1 ((MemStep.of_below HB4.out).trans h2))
  clear HB4 h1 h2
  have HO57 := Lib.hid (show (#[.int .u32 a0, .int .u32 a1, .int .u32 a2, .int .u32 a3, .int .u32 a4, .bool a5, .int .u32 a6, .int .u32 a7, .int .u32 a8, .int .u32 a9, .bool a10] : Array Value).all (·.oneCell') = true by simp [Value.oneCell'])
  go_wp2_with (refine wpList_store_to rfl 33 _ _ rfl (w.heap.size + 1) #[.int .u32 a0, .int .u32 a1, .int .u32 a2, .int .u32 a3, .int .u32 a4, .bool a5, .int .u32 a6, .int .u32 a7, .int .u32 a8, .int .u32 a9, .bool a10] rfl rfl 33 #[.int .u32 0, .int .u32 0, .int .u32 0, .int .u32 0, .int .u32 0, .bool false, .int .u32 0, .int .u32 0, .int .u32 0, .int .u32 0, .bool false] KB.out (by kernel_rfl) rfl HO57.out ?_)
  intro w58 hx59 hkk
  have K60 := Lib.hid (hx59.out.heap KA.out (by omega))
  clear KA
  have K61 := Lib.hid hkk
  clear hkk KB
  have HB62 := Lib.hid (And.intro (HBM.out.1.kx hx59.out (fun k _ hf e => by subst e; exact HNB.out hf)) (HBM.out.2.own hx59.out (by omega)))
  clear HBM hx59
  go_wp2_with fail
  exact bodyPost_ret (v := .agg #[.int .u32 a0, .int .u32 a1, .int .u32 a2, .int .u32 a3, .int .u32 a4, .bool a5, .int .u32 a6, .int .u32 a7, .int .u32 a8, .int .u32 a9, .bool a10]) (results_cell_row Tryd.results11 _ _ (w.heap.size + 1) 33 #[.int .u32 a0, .int .u32 a1, .int .u32 a2, .int .u32 a3, .int .u32 a4, .bool a5, .int .u32 a6, .int .u32 a7, .int .u32 a8, .int .u32 a9, .bool a10] (0, 0) _ rfl K61.out Tryd.underlying33 rfl (by kernel_rfl)) rfl ⟨rfl, F1, HB62.out.1, HB62.out.2⟩

set_option maxRecDepth 100000 in
set_option maxHeartbeats 4000000 in
theorem dma_tick_fetch (head at_ steps moved : Nat) (from_ to_ left next : Nat) (asks : Bool) (w : World) {g : Nat} {m m2 : Mm} {F : Nat → Prop} (HF0 : Hid (∀ k, F k → k < w.heap.size)) (HC : Hid (∀ W, Calls Tryd.prog 15 #[.agg #[.int .u32 1, .int .u32 head, .int .u32 at_, .int .u32 steps, .int .u32 moved, .bool false, .int .u32 from_, .int .u32 to_, .int .u32 left, .int .u32 next, .bool asks]] W fun e w' => e = .returned (.nilIface) ∧ Below W.heap.size W w'))
    (a0 a1 a2 a3 a4 : Nat) (a5 : Bool) (a6 a7 a8 a9 : Nat) (a10 : Bool) (HM : Hid (∀ W, Below w.heap.size w W → Calls Tryd.prog 53 #[.agg #[.int .u32 1, .int .u32 head, .int .u32 at_, .int .u32 steps, .int .u32 moved, .bool false, .int .u32 from_, .int .u32 to_, .int .u32 left, .int .u32 next, .bool asks], .pointer (some ⟨g, 0, none⟩)] W fun e w' => e = .returned (.agg #[.int .u32 a0, .int .u32 a1, .int .u32 a2, .int .u32 a3, .int .u32 a4, .bool a5, .int .u32 a6, .int .u32 a7, .int .u32 a8, .int .u32 a9, .bool a10]) ∧ ∃ F1, RamIs w' g m2 F1 ∧ MemStep F F1 W w')) :
    Calls Tryd.prog 11 #[.agg #[.int .u32 1, .int .u32 head, .int .u32 at_, .int .u32 steps, .int .u32 moved, .bool false, .int .u32 from_, .int .u32 to_, .int .u32 left, .int .u32 next, .bool asks], .pointer (some ⟨g, 0, none⟩)] w fun e w' => e = .returned (.agg #[.int .u32 a0, .int .u32 a1, .int .u32 a2, .int .u32 a3, .int .u32 a4, .bool a5, .int .u32 a6, .int .u32 a7, .int .u32 a8, .int .u32 a9, .bool a10]) ∧ ∃ F', RamIs w' g m2 F' ∧ MemStep F F' w w' := by
  obtain ⟨k0, k1, hb0⟩ := two_new w (.cells #[.int .u32 1, .int .u32 head, .int .u32 at_, .int .u32 steps, .int .u32 moved, .bool false, .int .u32 from_, .int .u32 to_, .int .u32 left, .int .u32 next, .bool asks] 33) (.cells #[.int .u32 0, .int .u32 0, .int .u32 0, .int .u32 0, .int .u32 0, .bool false, .int .u32 0, .int .u32 0, .int .u32 0, .int .u32 0, .bool false] 33)
  have K0 := Lib.hid k0
  have K1 := Lib.hid k1
  have HB0 := Lib.hid hb0
  clear k0 k1 hb0
  go_enter Tryd.func11, Tryd.ntmps11
  go_wp2_with fail
  refine (HC.out _).mono ?_
  rintro e w1 ⟨rfl, hb⟩
  have K2 := Lib.hid (keepB K0.out hb)
  clear K0
  have K3 := Lib.hid (keepB K1.out hb)
  clear K1
  have HB4 := Lib.hid (HB0.out.trans (hb.mono HB0.out.size))
  clear HB0
  clear hb
  have c5 := (cell_of_row _ _ 0 _ _ _ K2.out).trans (rfl : _ = some (.int .u32 1 : Value))
  have c6 := (cell_of_row _ _ 5 _ _ _ K2.out).trans (rfl : _ = some (.bool false : Value))
  go_wp2_with (first | go_skip | (refine wpList_load_row rfl 33 _ rfl (w.heap.size) rfl 33 #[.int .u32 1, .int .u32 head, .int .u32 at_, .int .u32 steps, .int .u32 moved, .bool false, .int .u32 from_, .int .u32 to_, .int .u32 left, .int .u32 next, .bool asks] (0, 0) _ K2.out Tryd.underlying33 rfl (by kernel_rfl) ?_))
  refine (HM.out _ HB4.out).mono ?_
  rintro e w9 ⟨rfl, F1, h1, h2⟩
  clear c5 c6
  have HNA : Hid (¬ F1 w.heap.size) := Lib.hid (h2.off (lt_heap K2.out) (fun hf => absurd (HF0.out _ hf) (Nat.lt_irrefl _)))
  have HNB : Hid (¬ F1 (w.heap.size + 1)) := Lib.hid (h2.off (lt_heap K3.out) (fun hf => by have := HF0.out _ hf; omega))
  have KA := Lib.hid (h2.heap K2.out (fun hf => by have := HF0.out _ hf; omega))
  clear K2
  have KB := Lib.hid (h2.heap K3.out (fun hf => by have := HF0.out _ hf; omega))
  clear K3
  have HBM := Lib.hid (And.intro h1 ((MemStep.of_below HB4.out).trans h2))
  clear HB4 h1 h2
  have HO57 := Lib.hid (show (#[.int .u32 a0, .int .u32 a1, .int .u32 a2, .int .u32 a3, .int .u32 a4, .bool a5, .int .u32 a6, .int .u32 a7, .int .u32 a8, .int .u32 a9, .bool a10] : Array Value).all (·.oneCell') = true by simp [Value.oneCell'])
  go_wp2_with (refine wpList_store_to rfl 33 _ _ rfl (w.heap.size + 1) #[.int .u32 a0, .int .u32 a1, .int .u32 a2, .int .u32 a3, .int .u32 a4, .bool a5, .int .u32 a6, .int .u32 a7, .int .u32 a8, .int .u32 a9, .bool a10] rfl rfl 33 #[.int .u32 0, .int .u32 0, .int .u32 0, .int .u32 0, .int .u32 0, .bool false, .int .u32 0, .int .u32 0, .int .u32 0, .int .u32 0, .bool false] KB.out (by kernel_rfl) rfl HO57.out ?_)
  intro w58 hx59 hkk
  have K60 := Lib.hid (hx59.out.heap KA.out (by omega))
  clear KA
  have K61 := Lib.hid hkk
  clear hkk KB
  have HB62 := Lib.hid (And.intro (HBM.out.1.kx hx59.out (fun k _ hf e => by subst e; exact HNB.out hf)) (HBM.out.2.own hx59.out (by omega)))
  clear HBM hx59
  go_wp2_with fail
  exact bodyPost_ret (v := .agg #[.int .u32 a0, .int .u32 a1, .int .u32 a2, .int .u32 a3, .int .u32 a4, .bool a5, .int .u32 a6, .int .u32 a7, .int .u32 a8, .int .u32 a9, .bool a10]) (results_cell_row Tryd.results11 _ _ (w.heap.size + 1) 33 #[.int .u32 a0, .int .u32 a1, .int .u32 a2, .int .u32 a3, .int .u32 a4, .bool a5, .int .u32 a6, .int .u32 a7, .int .u32 a8, .int .u32 a9, .bool a10] (0, 0) _ rfl K61.out Tryd.underlying33 rfl (by kernel_rfl)) rfl ⟨rfl, F1, HB62.out.1, HB62.out.2⟩

theorem dma_Tick_none (s : Dst) (w : World) : Calls Tryd.prog 11 #[.agg s.c, .pointer none] w fun e w' => e = .returned (.agg s.c) ∧ Below w.heap.size w w' := by
  have HC := Lib.hid (fun W => dma_Check s W)
  by_cases hok : s.okP
  · rw [if_pos hok] at HC
    by_cases hc : s.code = 1
    · obtain ⟨code, head, at_, steps, moved, have_, from_, to_, left, next, asks⟩ := s
      obtain rfl : code = 1 := hc
      exact dma_tick_nil head at_ steps moved have_ from_ to_ left next asks w HC
    · obtain ⟨code, head, at_, steps, moved, have_, from_, to_, left, next, asks⟩ := s
      exact dma_tick_idle head at_ steps moved have_ from_ to_ left next code asks w none hc HC
  · rw [if_neg hok] at HC
    obtain ⟨code, head, at_, steps, moved, have_, from_, to_, left, next, asks⟩ := s
    exact dma_tick_bad head at_ steps moved have_ from_ to_ left next code asks w none HC
/-- Tick of any state, of any memory. -/
theorem dma_Tick {g : Nat} {m : Mm} {F : Nat → Prop} {w : World} (s : Dst) (hs : s.wf) (h : RamIs w g m F) (hr : RegAt w) (hrf : ¬ F 1) :
    Calls Tryd.prog 11 #[.agg s.c, .pointer (some ⟨g, 0, none⟩)] w fun e w' => e = .returned (.agg (s.tick m).c) ∧ ∃ F', RamIs w' g (s.after m) F' ∧ MemStep F F' w w' := by
  have HC := Lib.hid (fun W => dma_Check s W)
  have HF0 := Lib.hid h.lt
  by_cases hok : s.okP
  · rw [if_pos hok] at HC
    by_cases hc : s.code = 1
    · have hg : s.goes := ⟨hok, hc⟩
      by_cases hv : s.have_ = true
      · have HM := Lib.hid (fun W (hb : Below w.heap.size w W) => dma_move s hs (h.below hb) (hr.below hb) hrf)
        have e1 : s.tick m = s.move m := by unfold Dst.tick; rw [if_neg (not_not_intro hg), if_pos hv]
        have e2 : s.after m = s.wrote m := by unfold Dst.after; rw [if_pos ⟨hg, hv⟩]
        rw [e1, e2]
        generalize s.move m = s2 at HM ⊢
        generalize s.wrote m = m2 at HM ⊢
        clear e1 e2 hg hs
        obtain ⟨code, head, at_, steps, moved, have_, from_, to_, left, next, asks⟩ := s
        obtain rfl : code = 1 := hc
        obtain rfl : have_ = true := hv
        exact dma_tick_move head at_ steps moved from_ to_ left next asks w (m := m) HF0 HC _ _ _ _ _ _ _ _ _ _ _ HM
      · have HM := Lib.hid (fun W (hb : Below w.heap.size w W) => dma_fetch s hs hok.st (h.below hb) (hr.below hb))
        have e1 : s.tick m = s.fetch m := by unfold Dst.tick; rw [if_neg (not_not_intro hg), if_neg hv]
        have e2 : s.after m = m := by unfold Dst.after; rw [if_neg (fun h => hv h.2)]
        rw [e1, e2]
        generalize s.fetch m = s2 at HM ⊢
        clear e1 e2 hg hs
        obtain ⟨code, head, at_, steps, moved, have_, from_, to_, left, next, asks⟩ := s
        obtain rfl : code = 1 := hc
        obtain rfl : have_ = false := by simpa using hv
        exact dma_tick_fetch head at_ steps moved from_ to_ left next asks w (m := m) HF0 HC _ _ _ _ _ _ _ _ _ _ _ HM
    · have hg : ¬ s.goes := fun h => hc h.code
      have e1 : s.tick m = s := by unfold Dst.tick; rw [if_pos hg]
      have e2 : s.after m = m := by unfold Dst.after; rw [if_neg (fun h => hg h.1)]
      rw [e1, e2]
      obtain ⟨code, head, at_, steps, moved, have_, from_, to_, left, next, asks⟩ := s
      exact (dma_tick_idle head at_ steps moved have_ from_ to_ left next code asks w (some ⟨g, 0, none⟩) hc HC).mono fun e w' ⟨h1, h2⟩ => ⟨h1, F, h.below h2, MemStep.of_below h2⟩
  · rw [if_neg hok] at HC
    have hg : ¬ s.goes := fun h => hok h.ok
    have e1 : s.tick m = s := by unfold Dst.tick; rw [if_pos hg]
    have e2 : s.after m = m := by unfold Dst.after; rw [if_neg (fun h => hg h.1)]
    rw [e1, e2]
    obtain ⟨code, head, at_, steps, moved, have_, from_, to_, left, next, asks⟩ := s
    exact (dma_tick_bad head at_ steps moved have_ from_ to_ left next code asks w (some ⟨g, 0, none⟩) HC).mono fun e w' ⟨h1, h2⟩ => ⟨h1, F, h.below h2, MemStep.of_below h2⟩
end Go.Proofs.YtcakcfeipfjmpaaDoor
