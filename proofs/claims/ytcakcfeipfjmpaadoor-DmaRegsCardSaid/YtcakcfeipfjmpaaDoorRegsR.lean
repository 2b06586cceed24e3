/-
dma.Read, pinnaceref12.Read, walked.
No condition.
-/
import Derived.Test.YtcakcfeipfjmpaaDoorRegsW
namespace Go.Proofs.YtcakcfeipfjmpaaDoor
open Go.RowKit

theorem dma_one (b : Bool) (w : World) : Calls Tryd.prog 79 #[.bool b] w fun e w' => e = .returned (.int .u32 (if b then 1 else 0)) ∧ w = w' := by
  cases b
  all_goals
    go_enter Tryd.func79, Tryd.ntmps79
    go_wp2_with fail
    go_ret
    exact ⟨rfl, rfl⟩

set_option maxRecDepth 100000 in
set_option maxHeartbeats 1000000 in
theorem dma_rd_0y (head at_ steps moved : Nat) (have_ : Bool) (from_ to_ left next : Nat) (asks : Bool) (w : World)  (HC : Hid (∀ W, Calls Tryd.prog 67 #[.agg #[.int .u32 1, .int .u32 head, .int .u32 at_, .int .u32 steps, .int .u32 moved, .bool have_, .int .u32 from_, .int .u32 to_, .int .u32 left, .int .u32 next, .bool asks], .int .u32 0] W fun e w' => e = .returned .nilIface ∧ Below W.heap.size W w')) : Calls Tryd.prog 37 #[.agg #[.int .u32 1, .int .u32 head, .int .u32 at_, .int .u32 steps, .int .u32 moved, .bool have_, .int .u32 from_, .int .u32 to_, .int .u32 left, .int .u32 next, .bool asks], .int .u32 0] w fun e w' => e = .returned (.tuple #[.int .u32 1, .nilIface]) ∧ Below w.heap.size w w' := by
  have HB := Lib.hid ((Below.refl w.heap.size w).alloc (Nat.le_refl _) (.cells #[.int .u32 1, .int .u32 head, .int .u32 at_, .int .u32 steps, .int .u32 moved, .bool have_, .int .u32 from_, .int .u32 to_, .int .u32 left, .int .u32 next, .bool asks] 33))
  have K := Lib.hid (heap_alloc_new w (.cells #[.int .u32 1, .int .u32 head, .int .u32 at_, .int .u32 steps, .int .u32 moved, .bool have_, .int .u32 from_, .int .u32 to_, .int .u32 left, .int .u32 next, .bool asks] 33))
  have HO := Lib.hid dma_one
  go_enter Tryd.func37, Tryd.ntmps37
  go_wp2_with fail
  refine (HC.out _).mono ?_
  rintro e w1 ⟨rfl, hb⟩
  have K1 := Lib.hid (keepB K.out hb)
  have HB1 := Lib.hid (HB.out.trans (hb.mono HB.out.size))
  clear hb K HB
  have c0 := (cell_of_row _ _ 0 _ _ _ K1.out).trans (rfl : _ = some (.int .u32 1 : Value))
  have c1 := (cell_of_row _ _ 1 _ _ _ K1.out).trans (rfl : _ = some (.int .u32 head : Value))
  have c4 := (cell_of_row _ _ 4 _ _ _ K1.out).trans (rfl : _ = some (.int .u32 moved : Value))
  have c10 := (cell_of_row _ _ 10 _ _ _ K1.out).trans (rfl : _ = some (.bool asks : Value))
  go_wp2_with fail
  refine (HO.out _ _).mono ?_
  rintro e w2 ⟨rfl, rfl⟩
  go_wp2_with fail
  go_ret2
  exact ⟨rfl, HB1.out⟩

set_option maxRecDepth 100000 in
set_option maxHeartbeats 1000000 in
theorem dma_rd_0n (head at_ steps moved : Nat) (have_ : Bool) (from_ to_ left next : Nat) (asks : Bool) (code : Nat) (w : World) (hc : code ≠ 1) (HC : Hid (∀ W, Calls Tryd.prog 67 #[.agg #[.int .u32 code, .int .u32 head, .int .u32 at_, .int .u32 steps, .int .u32 moved, .bool have_, .int .u32 from_, .int .u32 to_, .int .u32 left, .int .u32 next, .bool asks], .int .u32 0] W fun e w' => e = .returned .nilIface ∧ Below W.heap.size W w')) : Calls Tryd.prog 37 #[.agg #[.int .u32 code, .int .u32 head, .int .u32 at_, .int .u32 steps, .int .u32 moved, .bool have_, .int .u32 from_, .int .u32 to_, .int .u32 left, .int .u32 next, .bool asks], .int .u32 0] w fun e w' => e = .returned (.tuple #[.int .u32 0, .nilIface]) ∧ Below w.heap.size w w' := by
  have b1 : ((code : Int) == 1) = false := by simp; omega
  clear hc
  have HB := Lib.hid ((Below.refl w.heap.size w).alloc (Nat.le_refl _) (.cells #[.int .u32 code, .int .u32 head, .int .u32 at_, .int .u32 steps, .int .u32 moved, .bool have_, .int .u32 from_, .int .u32 to_, .int .u32 left, .int .u32 next, .bool asks] 33))
  have K := Lib.hid (heap_alloc_new w (.cells #[.int .u32 code, .int .u32 head, .int .u32 at_, .int .u32 steps, .int .u32 moved, .bool have_, .int .u32 from_, .int .u32 to_, .int .u32 left, .int .u32 next, .bool asks] 33))
  have HO := Lib.hid dma_one
  go_enter Tryd.func37, Tryd.ntmps37
  go_wp2_with fail
  refine (HC.out _).mono ?_
  rintro e w1 ⟨rfl, hb⟩
  have K1 := Lib.hid (keepB K.out hb)
  have HB1 := Lib.hid (HB.out.trans (hb.mono HB.out.size))
  clear hb K HB
  have c0 := (cell_of_row _ _ 0 _ _ _ K1.out).trans (rfl : _ = some (.int .u32 code : Value))
  have c1 := (cell_of_row _ _ 1 _ _ _ K1.out).trans (rfl : _ = some (.int .u32 head : Value))
  have c4 := (cell_of_row _ _ 4 _ _ _ K1.out).trans (rfl : _ = some (.int .u32 moved : Value))
  have c10 := (cell_of_row _ _ 10 _ _ _ K1.out).trans (rfl : _ = some (.bool asks : Value))
  go_wp2_with fail
  refine (HO.out _ _).mono ?_
  rintro e w2 ⟨rfl, rfl⟩
  go_wp2_with fail
  go_ret2
  exact ⟨rfl, HB1.out⟩

set_option maxRecDepth 100000 in
set_option maxHeartbeats 1000000 in
theorem dma_rd_4 (head at_ steps moved : Nat) (have_ : Bool) (from_ to_ left next : Nat) (asks : Bool) (code : Nat) (w : World)  (HC : Hid (∀ W, Calls Tryd.prog 67 #[.agg #[.int .u32 code, .int .u32 head, .int .u32 at_, .int .u32 steps, .int .u32 moved, .bool have_, .int .u32 from_, .int .u32 to_, .int .u32 left, .int .u32 next, .bool asks], .int .u32 4] W fun e w' => e = .returned .nilIface ∧ Below W.heap.size W w')) : Calls Tryd.prog 37 #[.agg #[.int .u32 code, .int .u32 head, .int .u32 at_, .int .u32 steps, .int .u32 moved, .bool have_, .int .u32 from_, .int .u32 to_, .int .u32 left, .int .u32 next, .bool asks], .int .u32 4] w fun e w' => e = .returned (.tuple #[.int .u32 code, .nilIface]) ∧ Below w.heap.size w w' := by
  have HB := Lib.hid ((Below.refl w.heap.size w).alloc (Nat.le_refl _) (.cells #[.int .u32 code, .int .u32 head, .int .u32 at_, .int .u32 steps, .int .u32 moved, .bool have_, .int .u32 from_, .int .u32 to_, .int .u32 left, .int .u32 next, .bool asks] 33))
  have K := Lib.hid (heap_alloc_new w (.cells #[.int .u32 code, .int .u32 head, .int .u32 at_, .int .u32 steps, .int .u32 moved, .bool have_, .int .u32 from_, .int .u32 to_, .int .u32 left, .int .u32 next, .bool asks] 33))
  have HO := Lib.hid dma_one
  go_enter Tryd.func37, Tryd.ntmps37
  go_wp2_with fail
  refine (HC.out _).mono ?_
  rintro e w1 ⟨rfl, hb⟩
  have K1 := Lib.hid (keepB K.out hb)
  have HB1 := Lib.hid (HB.out.trans (hb.mono HB.out.size))
  clear hb K HB
  have c0 := (cell_of_row _ _ 0 _ _ _ K1.out).trans (rfl : _ = some (.int .u32 code : Value))
  have c1 := (cell_of_row _ _ 1 _ _ _ K1.out).trans (rfl : _ = some (.int .u32 head : Value))
  have c4 := (cell_of_row _ _ 4 _ _ _ K1.out).trans (rfl : _ = some (.int .u32 moved : Value))
  have c10 := (cell_of_row _ _ 10 _ _ _ K1.out).trans (rfl : _ = some (.bool asks : Value))
  go_wp2_with fail
  go_ret2
  exact ⟨rfl, HB1.out⟩

set_option maxRecDepth 100000 in
set_option maxHeartbeats 1000000 in
theorem dma_rd_8 (head at_ steps moved : Nat) (have_ : Bool) (from_ to_ left next : Nat) (asks : Bool) (code : Nat) (w : World)  (HC : Hid (∀ W, Calls Tryd.prog 67 #[.agg #[.int .u32 code, .int .u32 head, .int .u32 at_, .int .u32 steps, .int .u32 moved, .bool have_, .int .u32 from_, .int .u32 to_, .int .u32 left, .int .u32 next, .bool asks], .int .u32 8] W fun e w' => e = .returned .nilIface ∧ Below W.heap.size W w')) : Calls Tryd.prog 37 #[.agg #[.int .u32 code, .int .u32 head, .int .u32 at_, .int .u32 steps, .int .u32 moved, .bool have_, .int .u32 from_, .int .u32 to_, .int .u32 left, .int .u32 next, .bool asks], .int .u32 8] w fun e w' => e = .returned (.tuple #[.int .u32 head, .nilIface]) ∧ Below w.heap.size w w' := by
  have HB := Lib.hid ((Below.refl w.heap.size w).alloc (Nat.le_refl _) (.cells #[.int .u32 code, .int .u32 head, .int .u32 at_, .int .u32 steps, .int .u32 moved, .bool have_, .int .u32 from_, .int .u32 to_, .int .u32 left, .int .u32 next, .bool asks] 33))
  have K := Lib.hid (heap_alloc_new w (.cells #[.int .u32 code, .int .u32 head, .int .u32 at_, .int .u32 steps, .int .u32 moved, .bool have_, .int .u32 from_, .int .u32 to_, .int .u32 left, .int .u32 next, .bool asks] 33))
  have HO := Lib.hid dma_one
  go_enter Tryd.func37, Tryd.ntmps37
  go_wp2_with fail
  refine (HC.out _).mono ?_
  rintro e w1 ⟨rfl, hb⟩
  have K1 := Lib.hid (keepB K.out hb)
  have HB1 := Lib.hid (HB.out.trans (hb.mono HB.out.size))
  clear hb K HB
  have c0 := (cell_of_row _ _ 0 _ _ _ K1.out).trans (rfl : _ = some (.int .u32 code : Value))
  have c1 := (cell_of_row _ _ 1 _ _ _ K1.out).trans (rfl : _ = some (.int .u32 head : Value))
  have c4 := (cell_of_row _ _ 4 _ _ _ K1.out).trans (rfl : _ = some (.int .u32 moved : Value))
  have c10 := (cell_of_row _ _ 10 _ _ _ K1.out).trans (rfl : _ = some (.bool asks : Value))
  go_wp2_with fail
  go_ret2
  exact ⟨rfl, HB1.out⟩

set_option maxRecDepth 100000 in
set_option maxHeartbeats 1000000 in
theorem dma_rd_12 (head at_ steps moved : Nat) (have_ : Bool) (from_ to_ left next : Nat) (asks : Bool) (code : Nat) (w : World)  (HC : Hid (∀ W, Calls Tryd.prog 67 #[.agg #[.int .u32 code, .int .u32 head, .int .u32 at_, .int .u32 steps, .int .u32 moved, .bool have_, .int .u32 from_, .int .u32 to_, .int .u32 left, .int .u32 next, .bool asks], .int .u32 12] W fun e w' => e = .returned .nilIface ∧ Below W.heap.size W w')) : Calls Tryd.prog 37 #[.agg #[.int .u32 code, .int .u32 head, .int .u32 at_, .int .u32 steps, .int .u32 moved, .bool have_, .int .u32 from_, .int .u32 to_, .int .u32 left, .int .u32 next, .bool asks], .int .u32 12] w fun e w' => e = .returned (.tuple #[.int .u32 moved, .nilIface]) ∧ Below w.heap.size w w' := by
  have HB := Lib.hid ((Below.refl w.heap.size w).alloc (Nat.le_refl _) (.cells #[.int .u32 code, .int .u32 head, .int .u32 at_, .int .u32 steps, .int .u32 moved, .bool have_, .int .u32 from_, .int .u32 to_, .int .u32 left, .int .u32 next, .bool asks] 33))
  have K := Lib.hid (heap_alloc_new w (.cells #[.int .u32 code, .int .u32 head, .int .u32 at_, .int .u32 steps, .int .u32 moved, .bool have_, .int .u32 from_, .int .u32 to_, .int .u32 left, .int .u32 next, .bool asks] 33))
  have HO := Lib.hid dma_one
  go_enter Tryd.func37, Tryd.ntmps37
  go_wp2_with fail
  refine (HC.out _).mono ?_
  rintro e w1 ⟨rfl, hb⟩
  have K1 := Lib.hid (keepB K.out hb)
  have HB1 := Lib.hid (HB.out.trans (hb.mono HB.out.size))
  clear hb K HB
  have c0 := (cell_of_row _ _ 0 _ _ _ K1.out).trans (rfl : _ = some (.int .u32 code : Value))
  have c1 := (cell_of_row _ _ 1 _ _ _ K1.out).trans (rfl : _ = some (.int .u32 head : Value))
  have c4 := (cell_of_row _ _ 4 _ _ _ K1.out).trans (rfl : _ = some (.int .u32 moved : Value))
  have c10 := (cell_of_row _ _ 10 _ _ _ K1.out).trans (rfl : _ = some (.bool asks : Value))
  go_wp2_with fail
  go_ret2
  exact ⟨rfl, HB1.out⟩

set_option maxRecDepth 100000 in
set_option maxHeartbeats 1000000 in
theorem dma_rd_16y (head at_ steps moved : Nat) (have_ : Bool) (from_ to_ left next : Nat) (code : Nat) (w : World)  (HC : Hid (∀ W, Calls Tryd.prog 67 #[.agg #[.int .u32 code, .int .u32 head, .int .u32 at_, .int .u32 steps, .int .u32 moved, .bool have_, .int .u32 from_, .int .u32 to_, .int .u32 left, .int .u32 next, .bool true], .int .u32 16] W fun e w' => e = .returned .nilIface ∧ Below W.heap.size W w')) : Calls Tryd.prog 37 #[.agg #[.int .u32 code, .int .u32 head, .int .u32 at_, .int .u32 steps, .int .u32 moved, .bool have_, .int .u32 from_, .int .u32 to_, .int .u32 left, .int .u32 next, .bool true], .int .u32 16] w fun e w' => e = .returned (.tuple #[.int .u32 1, .nilIface]) ∧ Below w.heap.size w w' := by
  have HB := Lib.hid ((Below.refl w.heap.size w).alloc (Nat.le_refl _) (.cells #[.int .u32 code, .int .u32 head, .int .u32 at_, .int .u32 steps, .int .u32 moved, .bool have_, .int .u32 from_, .int .u32 to_, .int .u32 left, .int .u32 next, .bool true] 33))
  have K := Lib.hid (heap_alloc_new w (.cells #[.int .u32 code, .int .u32 head, .int .u32 at_, .int .u32 steps, .int .u32 moved, .bool have_, .int .u32 from_, .int .u32 to_, .int .u32 left, .int .u32 next, .bool true] 33))
  have HO := Lib.hid dma_one
  go_enter Tryd.func37, Tryd.ntmps37
  go_wp2_with fail
  refine (HC.out _).mono ?_
  rintro e w1 ⟨rfl, hb⟩
  have K1 := Lib.hid (keepB K.out hb)
  have HB1 := Lib.hid (HB.out.trans (hb.mono HB.out.size))
  clear hb K HB
  have c0 := (cell_of_row _ _ 0 _ _ _ K1.out).trans (rfl : _ = some (.int .u32 code : Value))
  have c1 := (cell_of_row _ _ 1 _ _ _ K1.out).trans (rfl : _ = some (.int .u32 head : Value))
  have c4 := (cell_of_row _ _ 4 _ _ _ K1.out).trans (rfl : _ = some (.int .u32 moved : Value))
  have c10 := (cell_of_row _ _ 10 _ _ _ K1.out).trans (rfl : _ = some (.bool true : Value))
  go_wp2_with fail
  refine (HO.out _ _).mono ?_
  rintro e w2 ⟨rfl, rfl⟩
  go_wp2_with fail
  go_ret2
  exact ⟨rfl, HB1.out⟩

set_option maxRecDepth 100000 in
set_option maxHeartbeats 1000000 in
theorem dma_rd_16n (head at_ steps moved : Nat) (have_ : Bool) (from_ to_ left next : Nat) (code : Nat) (w : World)  (HC : Hid (∀ W, Calls Tryd.prog 67 #[.agg #[.int .u32 code, .int .u32 head, .int .u32 at_, .int .u32 steps, .int .u32 moved, .bool have_, .int .u32 from_, .int .u32 to_, .int .u32 left, .int .u32 next, .bool false], .int .u32 16] W fun e w' => e = .returned .nilIface ∧ Below W.heap.size W w')) : Calls Tryd.prog 37 #[.agg #[.int .u32 code, .int .u32 head, .int .u32 at_, .int .u32 steps, .int .u32 moved, .bool have_, .int .u32 from_, .int .u32 to_, .int .u32 left, .int .u32 next, .bool false], .int .u32 16] w fun e w' => e = .returned (.tuple #[.int .u32 0, .nilIface]) ∧ Below w.heap.size w w' := by
  have HB := Lib.hid ((Below.refl w.heap.size w).alloc (Nat.le_refl _) (.cells #[.int .u32 code, .int .u32 head, .int .u32 at_, .int .u32 steps, .int .u32 moved, .bool have_, .int .u32 from_, .int .u32 to_, .int .u32 left, .int .u32 next, .bool false] 33))
  have K := Lib.hid (heap_alloc_new w (.cells #[.int .u32 code, .int .u32 head, .int .u32 at_, .int .u32 steps, .int .u32 moved, .bool have_, .int .u32 from_, .int .u32 to_, .int .u32 left, .int .u32 next, .bool false] 33))
  have HO := Lib.hid dma_one
  go_enter Tryd.func37, Tryd.ntmps37
  go_wp2_with fail
  refine (HC.out _).mono ?_
  rintro e w1 ⟨rfl, hb⟩
  have K1 := Lib.hid (keepB K.out hb)
  have HB1 := Lib.hid (HB.out.trans (hb.mono HB.out.size))
  clear hb K HB
  have c0 := (cell_of_row _ _ 0 _ _ _ K1.out).trans (rfl : _ = some (.int .u32 code : Value))
  have c1 := (cell_of_row _ _ 1 _ _ _ K1.out).trans (rfl : _ = some (.int .u32 head : Value))
  have c4 := (cell_of_row _ _ 4 _ _ _ K1.out).trans (rfl : _ = some (.int .u32 moved : Value))
  have c10 := (cell_of_row _ _ 10 _ _ _ K1.out).trans (rfl : _ = some (.bool false : Value))
  go_wp2_with fail
  refine (HO.out _ _).mono ?_
  rintro e w2 ⟨rfl, rfl⟩
  go_wp2_with fail
  go_ret2
  exact ⟨rfl, HB1.out⟩

set_option maxRecDepth 100000 in
set_option maxHeartbeats 1000000 in
theorem dma_rd_x (head at_ steps moved : Nat) (have_ : Bool) (from_ to_ left next : Nat) (asks : Bool) (code : Nat) (at_x : Nat) (w : World) (h0 : at_x ≠ 0) (h4 : at_x ≠ 4) (h8 : at_x ≠ 8) (h12 : at_x ≠ 12) (h16 : at_x ≠ 16) (HC : Hid (∀ W, Calls Tryd.prog 67 #[.agg #[.int .u32 code, .int .u32 head, .int .u32 at_, .int .u32 steps, .int .u32 moved, .bool have_, .int .u32 from_, .int .u32 to_, .int .u32 left, .int .u32 next, .bool asks], .int .u32 at_x] W fun e w' => e = .returned .nilIface ∧ Below W.heap.size W w')) : Calls Tryd.prog 37 #[.agg #[.int .u32 code, .int .u32 head, .int .u32 at_, .int .u32 steps, .int .u32 moved, .bool have_, .int .u32 from_, .int .u32 to_, .int .u32 left, .int .u32 next, .bool asks], .int .u32 at_x] w fun e w' => e = .returned (.tuple #[.int .u32 0, .nilIface]) ∧ Below w.heap.size w w' := by
  have b1 : ((at_x : Int) == 0) = false := by simp; omega
  have b2 : ((at_x : Int) == 4) = false := by simp; omega
  have b3 : ((at_x : Int) == 8) = false := by simp; omega
  have b4 : ((at_x : Int) == 12) = false := by simp; omega
  have b5 : ((at_x : Int) == 16) = false := by simp; omega
  clear h0 h4 h8 h12 h16
  have HB := Lib.hid ((Below.refl w.heap.size w).alloc (Nat.le_refl _) (.cells #[.int .u32 code, .int .u32 head, .int .u32 at_, .int .u32 steps, .int .u32 moved, .bool have_, .int .u32 from_, .int .u32 to_, .int .u32 left, .int .u32 next, .bool asks] 33))
  have K := Lib.hid (heap_alloc_new w (.cells #[.int .u32 code, .int .u32 head, .int .u32 at_, .int .u32 steps, .int .u32 moved, .bool have_, .int .u32 from_, .int .u32 to_, .int .u32 left, .int .u32 next, .bool asks] 33))
  have HO := Lib.hid dma_one
  go_enter Tryd.func37, Tryd.ntmps37
  go_wp2_with fail
  refine (HC.out _).mono ?_
  rintro e w1 ⟨rfl, hb⟩
  have K1 := Lib.hid (keepB K.out hb)
  have HB1 := Lib.hid (HB.out.trans (hb.mono HB.out.size))
  clear hb K HB
  have c0 := (cell_of_row _ _ 0 _ _ _ K1.out).trans (rfl : _ = some (.int .u32 code : Value))
  have c1 := (cell_of_row _ _ 1 _ _ _ K1.out).trans (rfl : _ = some (.int .u32 head : Value))
  have c4 := (cell_of_row _ _ 4 _ _ _ K1.out).trans (rfl : _ = some (.int .u32 moved : Value))
  have c10 := (cell_of_row _ _ 10 _ _ _ K1.out).trans (rfl : _ = some (.bool asks : Value))
  go_wp2_with fail
  go_ret2
  exact ⟨rfl, HB1.out⟩

set_option maxRecDepth 100000 in
set_option maxHeartbeats 1000000 in
theorem dma_rd_bad1 (head at_ steps moved : Nat) (have_ : Bool) (from_ to_ left next : Nat) (asks : Bool) (code : Nat) (at_x : Nat) (w : World)  (HC : Hid (∀ W, Calls Tryd.prog 67 #[.agg #[.int .u32 code, .int .u32 head, .int .u32 at_, .int .u32 steps, .int .u32 moved, .bool have_, .int .u32 from_, .int .u32 to_, .int .u32 left, .int .u32 next, .bool asks], .int .u32 at_x] W fun e w' => e = .returned (errV 1) ∧ Below W.heap.size W w')) : Calls Tryd.prog 37 #[.agg #[.int .u32 code, .int .u32 head, .int .u32 at_, .int .u32 steps, .int .u32 moved, .bool have_, .int .u32 from_, .int .u32 to_, .int .u32 left, .int .u32 next, .bool asks], .int .u32 at_x] w fun e w' => e = .returned (.tuple #[.int .u32 0, .iface 109 (.int .i64 1)]) ∧ Below w.heap.size w w' := by
  rw [errV_1] at HC
  have HB := Lib.hid ((Below.refl w.heap.size w).alloc (Nat.le_refl _) (.cells #[.int .u32 code, .int .u32 head, .int .u32 at_, .int .u32 steps, .int .u32 moved, .bool have_, .int .u32 from_, .int .u32 to_, .int .u32 left, .int .u32 next, .bool asks] 33))
  have K := Lib.hid (heap_alloc_new w (.cells #[.int .u32 code, .int .u32 head, .int .u32 at_, .int .u32 steps, .int .u32 moved, .bool have_, .int .u32 from_, .int .u32 to_, .int .u32 left, .int .u32 next, .bool asks] 33))
  have HO := Lib.hid dma_one
  go_enter Tryd.func37, Tryd.ntmps37
  go_wp2_with fail
  refine (HC.out _).mono ?_
  rintro e w1 ⟨rfl, hb⟩
  have K1 := Lib.hid (keepB K.out hb)
  have HB1 := Lib.hid (HB.out.trans (hb.mono HB.out.size))
  clear hb K HB
  have c0 := (cell_of_row _ _ 0 _ _ _ K1.out).trans (rfl : _ = some (.int .u32 code : Value))
  have c1 := (cell_of_row _ _ 1 _ _ _ K1.out).trans (rfl : _ = some (.int .u32 head : Value))
  have c4 := (cell_of_row _ _ 4 _ _ _ K1.out).trans (rfl : _ = some (.int .u32 moved : Value))
  have c10 := (cell_of_row _ _ 10 _ _ _ K1.out).trans (rfl : _ = some (.bool asks : Value))
  go_wp2_with fail
  go_ret2
  exact ⟨rfl, HB1.out⟩

set_option maxRecDepth 100000 in
set_option maxHeartbeats 1000000 in
theorem dma_rd_bad20 (head at_ steps moved : Nat) (have_ : Bool) (from_ to_ left next : Nat) (asks : Bool) (code : Nat) (at_x : Nat) (w : World)  (HC : Hid (∀ W, Calls Tryd.prog 67 #[.agg #[.int .u32 code, .int .u32 head, .int .u32 at_, .int .u32 steps, .int .u32 moved, .bool have_, .int .u32 from_, .int .u32 to_, .int .u32 left, .int .u32 next, .bool asks], .int .u32 at_x] W fun e w' => e = .returned (errV 20) ∧ Below W.heap.size W w')) : Calls Tryd.prog 37 #[.agg #[.int .u32 code, .int .u32 head, .int .u32 at_, .int .u32 steps, .int .u32 moved, .bool have_, .int .u32 from_, .int .u32 to_, .int .u32 left, .int .u32 next, .bool asks], .int .u32 at_x] w fun e w' => e = .returned (.tuple #[.int .u32 0, .iface 109 (.int .i64 20)]) ∧ Below w.heap.size w w' := by
  rw [errV_20] at HC
  have HB := Lib.hid ((Below.refl w.heap.size w).alloc (Nat.le_refl _) (.cells #[.int .u32 code, .int .u32 head, .int .u32 at_, .int .u32 steps, .int .u32 moved, .bool have_, .int .u32 from_, .int .u32 to_, .int .u32 left, .int .u32 next, .bool asks] 33))
  have K := Lib.hid (heap_alloc_new w (.cells #[.int .u32 code, .int .u32 head, .int .u32 at_, .int .u32 steps, .int .u32 moved, .bool have_, .int .u32 from_, .int .u32 to_, .int .u32 left, .int .u32 next, .bool asks] 33))
  have HO := Lib.hid dma_one
  go_enter Tryd.func37, Tryd.ntmps37
  go_wp2_with fail
  refine (HC.out _).mono ?_
  rintro e w1 ⟨rfl, hb⟩
  have K1 := Lib.hid (keepB K.out hb)
  have HB1 := Lib.hid (HB.out.trans (hb.mono HB.out.size))
  clear hb K HB
  have c0 := (cell_of_row _ _ 0 _ _ _ K1.out).trans (rfl : _ = some (.int .u32 code : Value))
  have c1 := (cell_of_row _ _ 1 _ _ _ K1.out).trans (rfl : _ = some (.int .u32 head : Value))
  have c4 := (cell_of_row _ _ 4 _ _ _ K1.out).trans (rfl : _ = some (.int .u32 moved : Value))
  have c10 := (cell_of_row _ _ 10 _ _ _ K1.out).trans (rfl : _ = some (.bool asks : Value))
  go_wp2_with fail
  go_ret2
  exact ⟨rfl, HB1.out⟩

set_option maxRecDepth 100000 in
set_option maxHeartbeats 1000000 in
theorem r12_rd_bad (head at_ steps moved : Nat) (have_ : Bool) (from_ to_ left next : Nat) (asks : Bool) (code : Nat) (at_x : Nat) (w : World)  (HC : Hid (∀ W, Calls Tryd.prog 41 #[.agg #[.int .u32 code, .int .u32 head, .int .u32 at_, .int .u32 steps, .int .u32 moved, .bool have_, .int .u32 from_, .int .u32 to_, .int .u32 left, .int .u32 next, .bool asks]] W fun e w' => e = .returned (.int .i64 1) ∧ Below W.heap.size W w')) : Calls Tryd.prog 38 #[.agg #[.int .u32 code, .int .u32 head, .int .u32 at_, .int .u32 steps, .int .u32 moved, .bool have_, .int .u32 from_, .int .u32 to_, .int .u32 left, .int .u32 next, .bool asks], .int .u32 at_x] w fun e w' => e = .returned (.tuple #[.int .u32 0, .int .i64 1]) ∧ Below w.heap.size w w' := by
  have HB := Lib.hid ((Below.refl w.heap.size w).alloc (Nat.le_refl _) (.cells #[.int .u32 code, .int .u32 head, .int .u32 at_, .int .u32 steps, .int .u32 moved, .bool have_, .int .u32 from_, .int .u32 to_, .int .u32 left, .int .u32 next, .bool asks] 24))
  have K := Lib.hid (heap_alloc_new w (.cells #[.int .u32 code, .int .u32 head, .int .u32 at_, .int .u32 steps, .int .u32 moved, .bool have_, .int .u32 from_, .int .u32 to_, .int .u32 left, .int .u32 next, .bool asks] 24))
  go_enter Tryd.func38, Tryd.ntmps38
  go_wp2_with fail
  refine (HC.out _).mono ?_
  rintro e w1 ⟨rfl, hb⟩
  have K1 := Lib.hid (keepB K.out hb)
  have HB1 := Lib.hid (HB.out.trans (hb.mono HB.out.size))
  clear hb K HB
  have HL : Hid (w.heap.size < w1.heap.size) := Lib.hid (lt_heap K1.out)
  have c0 := (cell_of_row _ _ 0 _ _ _ K1.out).trans (rfl : _ = some (.int .u32 code : Value))
  have c1 := (cell_of_row _ _ 1 _ _ _ K1.out).trans (rfl : _ = some (.int .u32 head : Value))
  have c4 := (cell_of_row _ _ 4 _ _ _ K1.out).trans (rfl : _ = some (.int .u32 moved : Value))
  have c10 := (cell_of_row _ _ 10 _ _ _ K1.out).trans (rfl : _ = some (.bool asks : Value))
  have hlt := HL.out
  have hne : w.heap.size ≠ w1.heap.size := by omega
  go_wp2_with fail
  go_ret2
  exact ⟨rfl, HB1.out⟩

set_option maxRecDepth 100000 in
set_option maxHeartbeats 1000000 in
theorem r12_rd_far (head at_ steps moved : Nat) (have_ : Bool) (from_ to_ left next : Nat) (asks : Bool) (code : Nat) (at_x : Nat) (w : World) (ha : 256 ≤ at_x) (HC : Hid (∀ W, Calls Tryd.prog 41 #[.agg #[.int .u32 code, .int .u32 head, .int .u32 at_, .int .u32 steps, .int .u32 moved, .bool have_, .int .u32 from_, .int .u32 to_, .int .u32 left, .int .u32 next, .bool asks]] W fun e w' => e = .returned (.int .i64 0) ∧ Below W.heap.size W w')) : Calls Tryd.prog 38 #[.agg #[.int .u32 code, .int .u32 head, .int .u32 at_, .int .u32 steps, .int .u32 moved, .bool have_, .int .u32 from_, .int .u32 to_, .int .u32 left, .int .u32 next, .bool asks], .int .u32 at_x] w fun e w' => e = .returned (.tuple #[.int .u32 0, .int .i64 20]) ∧ Below w.heap.size w w' := by
  have g1 : decide ((255 : Int) < (at_x : Int)) = true := decide_eq_true (by omega)
  clear ha
  have HB := Lib.hid ((Below.refl w.heap.size w).alloc (Nat.le_refl _) (.cells #[.int .u32 code, .int .u32 head, .int .u32 at_, .int .u32 steps, .int .u32 moved, .bool have_, .int .u32 from_, .int .u32 to_, .int .u32 left, .int .u32 next, .bool asks] 24))
  have K := Lib.hid (heap_alloc_new w (.cells #[.int .u32 code, .int .u32 head, .int .u32 at_, .int .u32 steps, .int .u32 moved, .bool have_, .int .u32 from_, .int .u32 to_, .int .u32 left, .int .u32 next, .bool asks] 24))
  go_enter Tryd.func38, Tryd.ntmps38
  go_wp2_with fail
  refine (HC.out _).mono ?_
  rintro e w1 ⟨rfl, hb⟩
  have K1 := Lib.hid (keepB K.out hb)
  have HB1 := Lib.hid (HB.out.trans (hb.mono HB.out.size))
  clear hb K HB
  have HL : Hid (w.heap.size < w1.heap.size) := Lib.hid (lt_heap K1.out)
  have c0 := (cell_of_row _ _ 0 _ _ _ K1.out).trans (rfl : _ = some (.int .u32 code : Value))
  have c1 := (cell_of_row _ _ 1 _ _ _ K1.out).trans (rfl : _ = some (.int .u32 head : Value))
  have c4 := (cell_of_row _ _ 4 _ _ _ K1.out).trans (rfl : _ = some (.int .u32 moved : Value))
  have c10 := (cell_of_row _ _ 10 _ _ _ K1.out).trans (rfl : _ = some (.bool asks : Value))
  have hlt := HL.out
  have hne : w.heap.size ≠ w1.heap.size := by omega
  go_wp2_with fail
  go_ret2
  exact ⟨rfl, HB1.out⟩

set_option maxRecDepth 100000 in
set_option maxHeartbeats 1000000 in
theorem r12_rd_odd (head at_ steps moved : Nat) (have_ : Bool) (from_ to_ left next : Nat) (asks : Bool) (code : Nat) (at_x : Nat) (w : World) (ha : at_x < 256) (hm : at_x % 4 ≠ 0) (HC : Hid (∀ W, Calls Tryd.prog 41 #[.agg #[.int .u32 code, .int .u32 head, .int .u32 at_, .int .u32 steps, .int .u32 moved, .bool have_, .int .u32 from_, .int .u32 to_, .int .u32 left, .int .u32 next, .bool asks]] W fun e w' => e = .returned (.int .i64 0) ∧ Below W.heap.size W w')) : Calls Tryd.prog 38 #[.agg #[.int .u32 code, .int .u32 head, .int .u32 at_, .int .u32 steps, .int .u32 moved, .bool have_, .int .u32 from_, .int .u32 to_, .int .u32 left, .int .u32 next, .bool asks], .int .u32 at_x] w fun e w' => e = .returned (.tuple #[.int .u32 0, .int .i64 20]) ∧ Below w.heap.size w w' := by
  have g1 : decide ((255 : Int) < (at_x : Int)) = false := decide_eq_false (by omega)
  have g2 : (((at_x : Int) % 4) != 0) = true := by simp; omega
  clear ha hm
  have HB := Lib.hid ((Below.refl w.heap.size w).alloc (Nat.le_refl _) (.cells #[.int .u32 code, .int .u32 head, .int .u32 at_, .int .u32 steps, .int .u32 moved, .bool have_, .int .u32 from_, .int .u32 to_, .int .u32 left, .int .u32 next, .bool asks] 24))
  have K := Lib.hid (heap_alloc_new w (.cells #[.int .u32 code, .int .u32 head, .int .u32 at_, .int .u32 steps, .int .u32 moved, .bool have_, .int .u32 from_, .int .u32 to_, .int .u32 left, .int .u32 next, .bool asks] 24))
  go_enter Tryd.func38, Tryd.ntmps38
  go_wp2_with fail
  refine (HC.out _).mono ?_
  rintro e w1 ⟨rfl, hb⟩
  have K1 := Lib.hid (keepB K.out hb)
  have HB1 := Lib.hid (HB.out.trans (hb.mono HB.out.size))
  clear hb K HB
  have HL : Hid (w.heap.size < w1.heap.size) := Lib.hid (lt_heap K1.out)
  have c0 := (cell_of_row _ _ 0 _ _ _ K1.out).trans (rfl : _ = some (.int .u32 code : Value))
  have c1 := (cell_of_row _ _ 1 _ _ _ K1.out).trans (rfl : _ = some (.int .u32 head : Value))
  have c4 := (cell_of_row _ _ 4 _ _ _ K1.out).trans (rfl : _ = some (.int .u32 moved : Value))
  have c10 := (cell_of_row _ _ 10 _ _ _ K1.out).trans (rfl : _ = some (.bool asks : Value))
  have hlt := HL.out
  have hne : w.heap.size ≠ w1.heap.size := by omega
  go_wp2_with fail
  go_ret2
  exact ⟨rfl, HB1.out⟩

set_option maxRecDepth 100000 in
set_option maxHeartbeats 1000000 in
theorem r12_rd_0yy (head at_ steps moved : Nat) (have_ : Bool) (from_ to_ left next : Nat) (w : World)  (HC : Hid (∀ W, Calls Tryd.prog 41 #[.agg #[.int .u32 1, .int .u32 head, .int .u32 at_, .int .u32 steps, .int .u32 moved, .bool have_, .int .u32 from_, .int .u32 to_, .int .u32 left, .int .u32 next, .bool true]] W fun e w' => e = .returned (.int .i64 0) ∧ Below W.heap.size W w')) : Calls Tryd.prog 38 #[.agg #[.int .u32 1, .int .u32 head, .int .u32 at_, .int .u32 steps, .int .u32 moved, .bool have_, .int .u32 from_, .int .u32 to_, .int .u32 left, .int .u32 next, .bool true], .int .u32 0] w fun e w' => e = .returned (.tuple #[.int .u32 1, .int .i64 0]) ∧ Below w.heap.size w w' := by
  have HB := Lib.hid ((Below.refl w.heap.size w).alloc (Nat.le_refl _) (.cells #[.int .u32 1, .int .u32 head, .int .u32 at_, .int .u32 steps, .int .u32 moved, .bool have_, .int .u32 from_, .int .u32 to_, .int .u32 left, .int .u32 next, .bool true] 24))
  have K := Lib.hid (heap_alloc_new w (.cells #[.int .u32 1, .int .u32 head, .int .u32 at_, .int .u32 steps, .int .u32 moved, .bool have_, .int .u32 from_, .int .u32 to_, .int .u32 left, .int .u32 next, .bool true] 24))
  go_enter Tryd.func38, Tryd.ntmps38
  go_wp2_with fail
  refine (HC.out _).mono ?_
  rintro e w1 ⟨rfl, hb⟩
  have K1 := Lib.hid (keepB K.out hb)
  have HB1 := Lib.hid (HB.out.trans (hb.mono HB.out.size))
  clear hb K HB
  have HL : Hid (w.heap.size < w1.heap.size) := Lib.hid (lt_heap K1.out)
  have c0 := (cell_of_row _ _ 0 _ _ _ K1.out).trans (rfl : _ = some (.int .u32 1 : Value))
  have c1 := (cell_of_row _ _ 1 _ _ _ K1.out).trans (rfl : _ = some (.int .u32 head : Value))
  have c4 := (cell_of_row _ _ 4 _ _ _ K1.out).trans (rfl : _ = some (.int .u32 moved : Value))
  have c10 := (cell_of_row _ _ 10 _ _ _ K1.out).trans (rfl : _ = some (.bool true : Value))
  have hlt := HL.out
  have hne : w.heap.size ≠ w1.heap.size := by omega
  go_wp2_with fail
  go_ret2
  exact ⟨rfl, HB1.out.alloc HB1.out.size _⟩

set_option maxRecDepth 100000 in
set_option maxHeartbeats 1000000 in
theorem r12_rd_4yy (head at_ steps moved : Nat) (have_ : Bool) (from_ to_ left next : Nat) (w : World)  (HC : Hid (∀ W, Calls Tryd.prog 41 #[.agg #[.int .u32 1, .int .u32 head, .int .u32 at_, .int .u32 steps, .int .u32 moved, .bool have_, .int .u32 from_, .int .u32 to_, .int .u32 left, .int .u32 next, .bool true]] W fun e w' => e = .returned (.int .i64 0) ∧ Below W.heap.size W w')) : Calls Tryd.prog 38 #[.agg #[.int .u32 1, .int .u32 head, .int .u32 at_, .int .u32 steps, .int .u32 moved, .bool have_, .int .u32 from_, .int .u32 to_, .int .u32 left, .int .u32 next, .bool true], .int .u32 4] w fun e w' => e = .returned (.tuple #[.int .u32 1, .int .i64 0]) ∧ Below w.heap.size w w' := by
  have HB := Lib.hid ((Below.refl w.heap.size w).alloc (Nat.le_refl _) (.cells #[.int .u32 1, .int .u32 head, .int .u32 at_, .int .u32 steps, .int .u32 moved, .bool have_, .int .u32 from_, .int .u32 to_, .int .u32 left, .int .u32 next, .bool true] 24))
  have K := Lib.hid (heap_alloc_new w (.cells #[.int .u32 1, .int .u32 head, .int .u32 at_, .int .u32 steps, .int .u32 moved, .bool have_, .int .u32 from_, .int .u32 to_, .int .u32 left, .int .u32 next, .bool true] 24))
  go_enter Tryd.func38, Tryd.ntmps38
  go_wp2_with fail
  refine (HC.out _).mono ?_
  rintro e w1 ⟨rfl, hb⟩
  have K1 := Lib.hid (keepB K.out hb)
  have HB1 := Lib.hid (HB.out.trans (hb.mono HB.out.size))
  clear hb K HB
  have HL : Hid (w.heap.size < w1.heap.size) := Lib.hid (lt_heap K1.out)
  have c0 := (cell_of_row _ _ 0 _ _ _ K1.out).trans (rfl : _ = some (.int .u32 1 : Value))
  have c1 := (cell_of_row _ _ 1 _ _ _ K1.out).trans (rfl : _ = some (.int .u32 head : Value))
  have c4 := (cell_of_row _ _ 4 _ _ _ K1.out).trans (rfl : _ = some (.int .u32 moved : Value))
  have c10 := (cell_of_row _ _ 10 _ _ _ K1.out).trans (rfl : _ = some (.bool true : Value))
  have hlt := HL.out
  have hne : w.heap.size ≠ w1.heap.size := by omega
  go_wp2_with fail
  go_ret2
  exact ⟨rfl, HB1.out.alloc HB1.out.size _⟩

set_option maxRecDepth 100000 in
set_option maxHeartbeats 1000000 in
theorem r12_rd_8yy (head at_ steps moved : Nat) (have_ : Bool) (from_ to_ left next : Nat) (w : World)  (HC : Hid (∀ W, Calls Tryd.prog 41 #[.agg #[.int .u32 1, .int .u32 head, .int .u32 at_, .int .u32 steps, .int .u32 moved, .bool have_, .int .u32 from_, .int .u32 to_, .int .u32 left, .int .u32 next, .bool true]] W fun e w' => e = .returned (.int .i64 0) ∧ Below W.heap.size W w')) : Calls Tryd.prog 38 #[.agg #[.int .u32 1, .int .u32 head, .int .u32 at_, .int .u32 steps, .int .u32 moved, .bool have_, .int .u32 from_, .int .u32 to_, .int .u32 left, .int .u32 next, .bool true], .int .u32 8] w fun e w' => e = .returned (.tuple #[.int .u32 head, .int .i64 0]) ∧ Below w.heap.size w w' := by
  have HB := Lib.hid ((Below.refl w.heap.size w).alloc (Nat.le_refl _) (.cells #[.int .u32 1, .int .u32 head, .int .u32 at_, .int .u32 steps, .int .u32 moved, .bool have_, .int .u32 from_, .int .u32 to_, .int .u32 left, .int .u32 next, .bool true] 24))
  have K := Lib.hid (heap_alloc_new w (.cells #[.int .u32 1, .int .u32 head, .int .u32 at_, .int .u32 steps, .int .u32 moved, .bool have_, .int .u32 from_, .int .u32 to_, .int .u32 left, .int .u32 next, .bool true] 24))
  go_enter Tryd.func38, Tryd.ntmps38
  go_wp2_with fail
  refine (HC.out _).mono ?_
  rintro e w1 ⟨rfl, hb⟩
  have K1 := Lib.hid (keepB K.out hb)
  have HB1 := Lib.hid (HB.out.trans (hb.mono HB.out.size))
  clear hb K HB
  have HL : Hid (w.heap.size < w1.heap.size) := Lib.hid (lt_heap K1.out)
  have c0 := (cell_of_row _ _ 0 _ _ _ K1.out).trans (rfl : _ = some (.int .u32 1 : Value))
  have c1 := (cell_of_row _ _ 1 _ _ _ K1.out).trans (rfl : _ = some (.int .u32 head : Value))
  have c4 := (cell_of_row _ _ 4 _ _ _ K1.out).trans (rfl : _ = some (.int .u32 moved : Value))
  have c10 := (cell_of_row _ _ 10 _ _ _ K1.out).trans (rfl : _ = some (.bool true : Value))
  have hlt := HL.out
  have hne : w.heap.size ≠ w1.heap.size := by omega
  go_wp2_with fail
  go_ret2
  exact ⟨rfl, HB1.out.alloc HB1.out.size _⟩

set_option maxRecDepth 100000 in
set_option maxHeartbeats 1000000 in
theorem r12_rd_12yy (head at_ steps moved : Nat) (have_ : Bool) (from_ to_ left next : Nat) (w : World)  (HC : Hid (∀ W, Calls Tryd.prog 41 #[.agg #[.int .u32 1, .int .u32 head, .int .u32 at_, .int .u32 steps, .int .u32 moved, .bool have_, .int .u32 from_, .int .u32 to_, .int .u32 left, .int .u32 next, .bool true]] W fun e w' => e = .returned (.int .i64 0) ∧ Below W.heap.size W w')) : Calls Tryd.prog 38 #[.agg #[.int .u32 1, .int .u32 head, .int .u32 at_, .int .u32 steps, .int .u32 moved, .bool have_, .int .u32 from_, .int .u32 to_, .int .u32 left, .int .u32 next, .bool true], .int .u32 12] w fun e w' => e = .returned (.tuple #[.int .u32 moved, .int .i64 0]) ∧ Below w.heap.size w w' := by
  have HB := Lib.hid ((Below.refl w.heap.size w).alloc (Nat.le_refl _) (.cells #[.int .u32 1, .int .u32 head, .int .u32 at_, .int .u32 steps, .int .u32 moved, .bool have_, .int .u32 from_, .int .u32 to_, .int .u32 left, .int .u32 next, .bool true] 24))
  have K := Lib.hid (heap_alloc_new w (.cells #[.int .u32 1, .int .u32 head, .int .u32 at_, .int .u32 steps, .int .u32 moved, .bool have_, .int .u32 from_, .int .u32 to_, .int .u32 left, .int .u32 next, .bool true] 24))
  go_enter Tryd.func38, Tryd.ntmps38
  go_wp2_with fail
  refine (HC.out _).mono ?_
  rintro e w1 ⟨rfl, hb⟩
  have K1 := Lib.hid (keepB K.out hb)
  have HB1 := Lib.hid (HB.out.trans (hb.mono HB.out.size))
  clear hb K HB
  have HL : Hid (w.heap.size < w1.heap.size) := Lib.hid (lt_heap K1.out)
  have c0 := (cell_of_row _ _ 0 _ _ _ K1.out).trans (rfl : _ = some (.int .u32 1 : Value))
  have c1 := (cell_of_row _ _ 1 _ _ _ K1.out).trans (rfl : _ = some (.int .u32 head : Value))
  have c4 := (cell_of_row _ _ 4 _ _ _ K1.out).trans (rfl : _ = some (.int .u32 moved : Value))
  have c10 := (cell_of_row _ _ 10 _ _ _ K1.out).trans (rfl : _ = some (.bool true : Value))
  have hlt := HL.out
  have hne : w.heap.size ≠ w1.heap.size := by omega
  go_wp2_with fail
  go_ret2
  exact ⟨rfl, HB1.out.alloc HB1.out.size _⟩

set_option maxRecDepth 100000 in
set_option maxHeartbeats 1000000 in
theorem r12_rd_16yy (head at_ steps moved : Nat) (have_ : Bool) (from_ to_ left next : Nat) (w : World)  (HC : Hid (∀ W, Calls Tryd.prog 41 #[.agg #[.int .u32 1, .int .u32 head, .int .u32 at_, .int .u32 steps, .int .u32 moved, .bool have_, .int .u32 from_, .int .u32 to_, .int .u32 left, .int .u32 next, .bool true]] W fun e w' => e = .returned (.int .i64 0) ∧ Below W.heap.size W w')) : Calls Tryd.prog 38 #[.agg #[.int .u32 1, .int .u32 head, .int .u32 at_, .int .u32 steps, .int .u32 moved, .bool have_, .int .u32 from_, .int .u32 to_, .int .u32 left, .int .u32 next, .bool true], .int .u32 16] w fun e w' => e = .returned (.tuple #[.int .u32 1, .int .i64 0]) ∧ Below w.heap.size w w' := by
  have HB := Lib.hid ((Below.refl w.heap.size w).alloc (Nat.le_refl _) (.cells #[.int .u32 1, .int .u32 head, .int .u32 at_, .int .u32 steps, .int .u32 moved, .bool have_, .int .u32 from_, .int .u32 to_, .int .u32 left, .int .u32 next, .bool true] 24))
  have K := Lib.hid (heap_alloc_new w (.cells #[.int .u32 1, .int .u32 head, .int .u32 at_, .int .u32 steps, .int .u32 moved, .bool have_, .int .u32 from_, .int .u32 to_, .int .u32 left, .int .u32 next, .bool true] 24))
  go_enter Tryd.func38, Tryd.ntmps38
  go_wp2_with fail
  refine (HC.out _).mono ?_
  rintro e w1 ⟨rfl, hb⟩
  have K1 := Lib.hid (keepB K.out hb)
  have HB1 := Lib.hid (HB.out.trans (hb.mono HB.out.size))
  clear hb K HB
  have HL : Hid (w.heap.size < w1.heap.size) := Lib.hid (lt_heap K1.out)
  have c0 := (cell_of_row _ _ 0 _ _ _ K1.out).trans (rfl : _ = some (.int .u32 1 : Value))
  have c1 := (cell_of_row _ _ 1 _ _ _ K1.out).trans (rfl : _ = some (.int .u32 head : Value))
  have c4 := (cell_of_row _ _ 4 _ _ _ K1.out).trans (rfl : _ = some (.int .u32 moved : Value))
  have c10 := (cell_of_row _ _ 10 _ _ _ K1.out).trans (rfl : _ = some (.bool true : Value))
  have hlt := HL.out
  have hne : w.heap.size ≠ w1.heap.size := by omega
  go_wp2_with fail
  go_ret2
  exact ⟨rfl, HB1.out.alloc HB1.out.size _⟩

set_option maxRecDepth 100000 in
set_option maxHeartbeats 1000000 in
theorem r12_rd_xyy (head at_ steps moved : Nat) (have_ : Bool) (from_ to_ left next : Nat) (at_x : Nat) (w : World)  (ha : at_x < 256) (hm : at_x % 4 = 0) (h20 : 20 ≤ at_x) (HC : Hid (∀ W, Calls Tryd.prog 41 #[.agg #[.int .u32 1, .int .u32 head, .int .u32 at_, .int .u32 steps, .int .u32 moved, .bool have_, .int .u32 from_, .int .u32 to_, .int .u32 left, .int .u32 next, .bool true]] W fun e w' => e = .returned (.int .i64 0) ∧ Below W.heap.size W w')) : Calls Tryd.prog 38 #[.agg #[.int .u32 1, .int .u32 head, .int .u32 at_, .int .u32 steps, .int .u32 moved, .bool have_, .int .u32 from_, .int .u32 to_, .int .u32 left, .int .u32 next, .bool true], .int .u32 at_x] w fun e w' => e = .returned (.tuple #[.int .u32 0, .int .i64 0]) ∧ Below w.heap.size w w' := by
  have g1 : decide ((255 : Int) < (at_x : Int)) = false := decide_eq_false (by omega)
  have g2 : (((at_x : Int) % 4) != 0) = false := by simp; omega
  have g3 : decide ((at_x : Int) / 4 % 4294967296 < 5) = false := decide_eq_false (by omega)
  have g4 : (0 : Int) ≤ (at_x : Int) := by omega
  clear ha hm h20
  have HB := Lib.hid ((Below.refl w.heap.size w).alloc (Nat.le_refl _) (.cells #[.int .u32 1, .int .u32 head, .int .u32 at_, .int .u32 steps, .int .u32 moved, .bool have_, .int .u32 from_, .int .u32 to_, .int .u32 left, .int .u32 next, .bool true] 24))
  have K := Lib.hid (heap_alloc_new w (.cells #[.int .u32 1, .int .u32 head, .int .u32 at_, .int .u32 steps, .int .u32 moved, .bool have_, .int .u32 from_, .int .u32 to_, .int .u32 left, .int .u32 next, .bool true] 24))
  go_enter Tryd.func38, Tryd.ntmps38
  go_wp2_with fail
  refine (HC.out _).mono ?_
  rintro e w1 ⟨rfl, hb⟩
  have K1 := Lib.hid (keepB K.out hb)
  have HB1 := Lib.hid (HB.out.trans (hb.mono HB.out.size))
  clear hb K HB
  have HL : Hid (w.heap.size < w1.heap.size) := Lib.hid (lt_heap K1.out)
  have c0 := (cell_of_row _ _ 0 _ _ _ K1.out).trans (rfl : _ = some (.int .u32 1 : Value))
  have c1 := (cell_of_row _ _ 1 _ _ _ K1.out).trans (rfl : _ = some (.int .u32 head : Value))
  have c4 := (cell_of_row _ _ 4 _ _ _ K1.out).trans (rfl : _ = some (.int .u32 moved : Value))
  have c10 := (cell_of_row _ _ 10 _ _ _ K1.out).trans (rfl : _ = some (.bool true : Value))
  have hlt := HL.out
  have hne : w.heap.size ≠ w1.heap.size := by omega
  go_wp2_with fail
  go_ret2
  exact ⟨rfl, HB1.out.alloc HB1.out.size _⟩

set_option maxRecDepth 100000 in
set_option maxHeartbeats 1000000 in
theorem r12_rd_0yn (head at_ steps moved : Nat) (have_ : Bool) (from_ to_ left next : Nat) (w : World)  (HC : Hid (∀ W, Calls Tryd.prog 41 #[.agg #[.int .u32 1, .int .u32 head, .int .u32 at_, .int .u32 steps, .int .u32 moved, .bool have_, .int .u32 from_, .int .u32 to_, .int .u32 left, .int .u32 next, .bool false]] W fun e w' => e = .returned (.int .i64 0) ∧ Below W.heap.size W w')) : Calls Tryd.prog 38 #[.agg #[.int .u32 1, .int .u32 head, .int .u32 at_, .int .u32 steps, .int .u32 moved, .bool have_, .int .u32 from_, .int .u32 to_, .int .u32 left, .int .u32 next, .bool false], .int .u32 0] w fun e w' => e = .returned (.tuple #[.int .u32 1, .int .i64 0]) ∧ Below w.heap.size w w' := by
  have HB := Lib.hid ((Below.refl w.heap.size w).alloc (Nat.le_refl _) (.cells #[.int .u32 1, .int .u32 head, .int .u32 at_, .int .u32 steps, .int .u32 moved, .bool have_, .int .u32 from_, .int .u32 to_, .int .u32 left, .int .u32 next, .bool false] 24))
  have K := Lib.hid (heap_alloc_new w (.cells #[.int .u32 1, .int .u32 head, .int .u32 at_, .int .u32 steps, .int .u32 moved, .bool have_, .int .u32 from_, .int .u32 to_, .int .u32 left, .int .u32 next, .bool false] 24))
  go_enter Tryd.func38, Tryd.ntmps38
  go_wp2_with fail
  refine (HC.out _).mono ?_
  rintro e w1 ⟨rfl, hb⟩
  have K1 := Lib.hid (keepB K.out hb)
  have HB1 := Lib.hid (HB.out.trans (hb.mono HB.out.size))
  clear hb K HB
  have HL : Hid (w.heap.size < w1.heap.size) := Lib.hid (lt_heap K1.out)
  have c0 := (cell_of_row _ _ 0 _ _ _ K1.out).trans (rfl : _ = some (.int .u32 1 : Value))
  have c1 := (cell_of_row _ _ 1 _ _ _ K1.out).trans (rfl : _ = some (.int .u32 head : Value))
  have c4 := (cell_of_row _ _ 4 _ _ _ K1.out).trans (rfl : _ = some (.int .u32 moved : Value))
  have c10 := (cell_of_row _ _ 10 _ _ _ K1.out).trans (rfl : _ = some (.bool false : Value))
  have hlt := HL.out
  have hne : w.heap.size ≠ w1.heap.size := by omega
  go_wp2_with fail
  go_ret2
  exact ⟨rfl, HB1.out.alloc HB1.out.size _⟩

set_option maxRecDepth 100000 in
set_option maxHeartbeats 1000000 in
theorem r12_rd_4yn (head at_ steps moved : Nat) (have_ : Bool) (from_ to_ left next : Nat) (w : World)  (HC : Hid (∀ W, Calls Tryd.prog 41 #[.agg #[.int .u32 1, .int .u32 head, .int .u32 at_, .int .u32 steps, .int .u32 moved, .bool have_, .int .u32 from_, .int .u32 to_, .int .u32 left, .int .u32 next, .bool false]] W fun e w' => e = .returned (.int .i64 0) ∧ Below W.heap.size W w')) : Calls Tryd.prog 38 #[.agg #[.int .u32 1, .int .u32 head, .int .u32 at_, .int .u32 steps, .int .u32 moved, .bool have_, .int .u32 from_, .int .u32 to_, .int .u32 left, .int .u32 next, .bool false], .int .u32 4] w fun e w' => e = .returned (.tuple #[.int .u32 1, .int .i64 0]) ∧ Below w.heap.size w w' := by
  have HB := Lib.hid ((Below.refl w.heap.size w).alloc (Nat.le_refl _) (.cells #[.int .u32 1, .int .u32 head, .int .u32 at_, .int .u32 steps, .int .u32 moved, .bool have_, .int .u32 from_, .int .u32 to_, .int .u32 left, .int .u32 next, .bool false] 24))
  have K := Lib.hid (heap_alloc_new w (.cells #[.int .u32 1, .int .u32 head, .int .u32 at_, .int .u32 steps, .int .u32 moved, .bool have_, .int .u32 from_, .int .u32 to_, .int .u32 left, .int .u32 next, .bool false] 24))
  go_enter Tryd.func38, Tryd.ntmps38
  go_wp2_with fail
  refine (HC.out _).mono ?_
  rintro e w1 ⟨rfl, hb⟩
  have K1 := Lib.hid (keepB K.out hb)
  have HB1 := Lib.hid (HB.out.trans (hb.mono HB.out.size))
  clear hb K HB
  have HL : Hid (w.heap.size < w1.heap.size) := Lib.hid (lt_heap K1.out)
  have c0 := (cell_of_row _ _ 0 _ _ _ K1.out).trans (rfl : _ = some (.int .u32 1 : Value))
  have c1 := (cell_of_row _ _ 1 _ _ _ K1.out).trans (rfl : _ = some (.int .u32 head : Value))
  have c4 := (cell_of_row _ _ 4 _ _ _ K1.out).trans (rfl : _ = some (.int .u32 moved : Value))
  have c10 := (cell_of_row _ _ 10 _ _ _ K1.out).trans (rfl : _ = some (.bool false : Value))
  have hlt := HL.out
  have hne : w.heap.size ≠ w1.heap.size := by omega
  go_wp2_with fail
  go_ret2
  exact ⟨rfl, HB1.out.alloc HB1.out.size _⟩

set_option maxRecDepth 100000 in
set_option maxHeartbeats 1000000 in
theorem r12_rd_8yn (head at_ steps moved : Nat) (have_ : Bool) (from_ to_ left next : Nat) (w : World)  (HC : Hid (∀ W, Calls Tryd.prog 41 #[.agg #[.int .u32 1, .int .u32 head, .int .u32 at_, .int .u32 steps, .int .u32 moved, .bool have_, .int .u32 from_, .int .u32 to_, .int .u32 left, .int .u32 next, .bool false]] W fun e w' => e = .returned (.int .i64 0) ∧ Below W.heap.size W w')) : Calls Tryd.prog 38 #[.agg #[.int .u32 1, .int .u32 head, .int .u32 at_, .int .u32 steps, .int .u32 moved, .bool have_, .int .u32 from_, .int .u32 to_, .int .u32 left, .int .u32 next, .bool false], .int .u32 8] w fun e w' => e = .returned (.tuple #[.int .u32 head, .int .i64 0]) ∧ Below w.heap.size w w' := by
  have HB := Lib.hid ((Below.refl w.heap.size w).alloc (Nat.le_refl _) (.cells #[.int .u32 1, .int .u32 head, .int .u32 at_, .int .u32 steps, .int .u32 moved, .bool have_, .int .u32 from_, .int .u32 to_, .int .u32 left, .int .u32 next, .bool false] 24))
  have K := Lib.hid (heap_alloc_new w (.cells #[.int .u32 1, .int .u32 head, .int .u32 at_, .int .u32 steps, .int .u32 moved, .bool have_, .int .u32 from_, .int .u32 to_, .int .u32 left, .int .u32 next, .bool false] 24))
  go_enter Tryd.func38, Tryd.ntmps38
  go_wp2_with fail
  refine (HC.out _).mono ?_
  rintro e w1 ⟨rfl, hb⟩
  have K1 := Lib.hid (keepB K.out hb)
  have HB1 := Lib.hid (HB.out.trans (hb.mono HB.out.size))
  clear hb K HB
  have HL : Hid (w.heap.size < w1.heap.size) := Lib.hid (lt_heap K1.out)
  have c0 := (cell_of_row _ _ 0 _ _ _ K1.out).trans (rfl : _ = some (.int .u32 1 : Value))
  have c1 := (cell_of_row _ _ 1 _ _ _ K1.out).trans (rfl : _ = some (.int .u32 head : Value))
  have c4 := (cell_of_row _ _ 4 _ _ _ K1.out).trans (rfl : _ = some (.int .u32 moved : Value))
  have c10 := (cell_of_row _ _ 10 _ _ _ K1.out).trans (rfl : _ = some (.bool false : Value))
  have hlt := HL.out
  have hne : w.heap.size ≠ w1.heap.size := by omega
  go_wp2_with fail
  go_ret2
  exact ⟨rfl, HB1.out.alloc HB1.out.size _⟩

set_option maxRecDepth 100000 in
set_option maxHeartbeats 1000000 in
theorem r12_rd_12yn (head at_ steps moved : Nat) (have_ : Bool) (from_ to_ left next : Nat) (w : World)  (HC : Hid (∀ W, Calls Tryd.prog 41 #[.agg #[.int .u32 1, .int .u32 head, .int .u32 at_, .int .u32 steps, .int .u32 moved, .bool have_, .int .u32 from_, .int .u32 to_, .int .u32 left, .int .u32 next, .bool false]] W fun e w' => e = .returned (.int .i64 0) ∧ Below W.heap.size W w')) : Calls Tryd.prog 38 #[.agg #[.int .u32 1, .int .u32 head, .int .u32 at_, .int .u32 steps, .int .u32 moved, .bool have_, .int .u32 from_, .int .u32 to_, .int .u32 left, .int .u32 next, .bool false], .int .u32 12] w fun e w' => e = .returned (.tuple #[.int .u32 moved, .int .i64 0]) ∧ Below w.heap.size w w' := by
  have HB := Lib.hid ((Below.refl w.heap.size w).alloc (Nat.le_refl _) (.cells #[.int .u32 1, .int .u32 head, .int .u32 at_, .int .u32 steps, .int .u32 moved, .bool have_, .int .u32 from_, .int .u32 to_, .int .u32 left, .int .u32 next, .bool false] 24))
  have K := Lib.hid (heap_alloc_new w (.cells #[.int .u32 1, .int .u32 head, .int .u32 at_, .int .u32 steps, .int .u32 moved, .bool have_, .int .u32 from_, .int .u32 to_, .int .u32 left, .int .u32 next, .bool false] 24))
  go_enter Tryd.func38, Tryd.ntmps38
  go_wp2_with fail
  refine (HC.out _).mono ?_
  rintro e w1 ⟨rfl, hb⟩
  have K1 := Lib.hid (keepB K.out hb)
  have HB1 := Lib.hid (HB.out.trans (hb.mono HB.out.size))
  clear hb K HB
  have HL : Hid (w.heap.size < w1.heap.size) := Lib.hid (lt_heap K1.out)
  have c0 := (cell_of_row _ _ 0 _ _ _ K1.out).trans (rfl : _ = some (.int .u32 1 : Value))
  have c1 := (cell_of_row _ _ 1 _ _ _ K1.out).trans (rfl : _ = some (.int .u32 head : Value))
  have c4 := (cell_of_row _ _ 4 _ _ _ K1.out).trans (rfl : _ = some (.int .u32 moved : Value))
  have c10 := (cell_of_row _ _ 10 _ _ _ K1.out).trans (rfl : _ = some (.bool false : Value))
  have hlt := HL.out
  have hne : w.heap.size ≠ w1.heap.size := by omega
  go_wp2_with fail
  go_ret2
  exact ⟨rfl, HB1.out.alloc HB1.out.size _⟩

set_option maxRecDepth 100000 in
set_option maxHeartbeats 1000000 in
theorem r12_rd_16yn (head at_ steps moved : Nat) (have_ : Bool) (from_ to_ left next : Nat) (w : World)  (HC : Hid (∀ W, Calls Tryd.prog 41 #[.agg #[.int .u32 1, .int .u32 head, .int .u32 at_, .int .u32 steps, .int .u32 moved, .bool have_, .int .u32 from_, .int .u32 to_, .int .u32 left, .int .u32 next, .bool false]] W fun e w' => e = .returned (.int .i64 0) ∧ Below W.heap.size W w')) : Calls Tryd.prog 38 #[.agg #[.int .u32 1, .int .u32 head, .int .u32 at_, .int .u32 steps, .int .u32 moved, .bool have_, .int .u32 from_, .int .u32 to_, .int .u32 left, .int .u32 next, .bool false], .int .u32 16] w fun e w' => e = .returned (.tuple #[.int .u32 0, .int .i64 0]) ∧ Below w.heap.size w w' := by
  have HB := Lib.hid ((Below.refl w.heap.size w).alloc (Nat.le_refl _) (.cells #[.int .u32 1, .int .u32 head, .int .u32 at_, .int .u32 steps, .int .u32 moved, .bool have_, .int .u32 from_, .int .u32 to_, .int .u32 left, .int .u32 next, .bool false] 24))
  have K := Lib.hid (heap_alloc_new w (.cells #[.int .u32 1, .int .u32 head, .int .u32 at_, .int .u32 steps, .int .u32 moved, .bool have_, .int .u32 from_, .int .u32 to_, .int .u32 left, .int .u32 next, .bool false] 24))
  go_enter Tryd.func38, Tryd.ntmps38
  go_wp2_with fail
  refine (HC.out _).mono ?_
  rintro e w1 ⟨rfl, hb⟩
  have K1 := Lib.hid (keepB K.out hb)
  have HB1 := Lib.hid (HB.out.trans (hb.mono HB.out.size))
  clear hb K HB
  have HL : Hid (w.heap.size < w1.heap.size) := Lib.hid (lt_heap K1.out)
  have c0 := (cell_of_row _ _ 0 _ _ _ K1.out).trans (rfl : _ = some (.int .u32 1 : Value))
  have c1 := (cell_of_row _ _ 1 _ _ _ K1.out).trans (rfl : _ = some (.int .u32 head : Value))
  have c4 := (cell_of_row _ _ 4 _ _ _ K1.out).trans (rfl : _ = some (.int .u32 moved : Value))
  have c10 := (cell_of_row _ _ 10 _ _ _ K1.out).trans (rfl : _ = some (.bool false : Value))
  have hlt := HL.out
  have hne : w.heap.size ≠ w1.heap.size := by omega
  go_wp2_with fail
  go_ret2
  exact ⟨rfl, HB1.out.alloc HB1.out.size _⟩

set_option maxRecDepth 100000 in
set_option maxHeartbeats 1000000 in
theorem r12_rd_xyn (head at_ steps moved : Nat) (have_ : Bool) (from_ to_ left next : Nat) (at_x : Nat) (w : World)  (ha : at_x < 256) (hm : at_x % 4 = 0) (h20 : 20 ≤ at_x) (HC : Hid (∀ W, Calls Tryd.prog 41 #[.agg #[.int .u32 1, .int .u32 head, .int .u32 at_, .int .u32 steps, .int .u32 moved, .bool have_, .int .u32 from_, .int .u32 to_, .int .u32 left, .int .u32 next, .bool false]] W fun e w' => e = .returned (.int .i64 0) ∧ Below W.heap.size W w')) : Calls Tryd.prog 38 #[.agg #[.int .u32 1, .int .u32 head, .int .u32 at_, .int .u32 steps, .int .u32 moved, .bool have_, .int .u32 from_, .int .u32 to_, .int .u32 left, .int .u32 next, .bool false], .int .u32 at_x] w fun e w' => e = .returned (.tuple #[.int .u32 0, .int .i64 0]) ∧ Below w.heap.size w w' := by
  have g1 : decide ((255 : Int) < (at_x : Int)) = false := decide_eq_false (by omega)
  have g2 : (((at_x : Int) % 4) != 0) = false := by simp; omega
  have g3 : decide ((at_x : Int) / 4 % 4294967296 < 5) = false := decide_eq_false (by omega)
  have g4 : (0 : Int) ≤ (at_x : Int) := by omega
  clear ha hm h20
  have HB := Lib.hid ((Below.refl w.heap.size w).alloc (Nat.le_refl _) (.cells #[.int .u32 1, .int .u32 head, .int .u32 at_, .int .u32 steps, .int .u32 moved, .bool have_, .int .u32 from_, .int .u32 to_, .int .u32 left, .int .u32 next, .bool false] 24))
  have K := Lib.hid (heap_alloc_new w (.cells #[.int .u32 1, .int .u32 head, .int .u32 at_, .int .u32 steps, .int .u32 moved, .bool have_, .int .u32 from_, .int .u32 to_, .int .u32 left, .int .u32 next, .bool false] 24))
  go_enter Tryd.func38, Tryd.ntmps38
  go_wp2_with fail
  refine (HC.out _).mono ?_
  rintro e w1 ⟨rfl, hb⟩
  have K1 := Lib.hid (keepB K.out hb)
  have HB1 := Lib.hid (HB.out.trans (hb.mono HB.out.size))
  clear hb K HB
  have HL : Hid (w.heap.size < w1.heap.size) := Lib.hid (lt_heap K1.out)
  have c0 := (cell_of_row _ _ 0 _ _ _ K1.out).trans (rfl : _ = some (.int .u32 1 : Value))
  have c1 := (cell_of_row _ _ 1 _ _ _ K1.out).trans (rfl : _ = some (.int .u32 head : Value))
  have c4 := (cell_of_row _ _ 4 _ _ _ K1.out).trans (rfl : _ = some (.int .u32 moved : Value))
  have c10 := (cell_of_row _ _ 10 _ _ _ K1.out).trans (rfl : _ = some (.bool false : Value))
  have hlt := HL.out
  have hne : w.heap.size ≠ w1.heap.size := by omega
  go_wp2_with fail
  go_ret2
  exact ⟨rfl, HB1.out.alloc HB1.out.size _⟩

set_option maxRecDepth 100000 in
set_option maxHeartbeats 1000000 in
theorem r12_rd_0ny (head at_ steps moved : Nat) (have_ : Bool) (from_ to_ left next : Nat) (code : Nat) (w : World) (hc : code ≠ 1) (HC : Hid (∀ W, Calls Tryd.prog 41 #[.agg #[.int .u32 code, .int .u32 head, .int .u32 at_, .int .u32 steps, .int .u32 moved, .bool have_, .int .u32 from_, .int .u32 to_, .int .u32 left, .int .u32 next, .bool true]] W fun e w' => e = .returned (.int .i64 0) ∧ Below W.heap.size W w')) : Calls Tryd.prog 38 #[.agg #[.int .u32 code, .int .u32 head, .int .u32 at_, .int .u32 steps, .int .u32 moved, .bool have_, .int .u32 from_, .int .u32 to_, .int .u32 left, .int .u32 next, .bool true], .int .u32 0] w fun e w' => e = .returned (.tuple #[.int .u32 0, .int .i64 0]) ∧ Below w.heap.size w w' := by
  have b1 : ((code : Int) == 1) = false := by simp; omega
  clear hc
  have HB := Lib.hid ((Below.refl w.heap.size w).alloc (Nat.le_refl _) (.cells #[.int .u32 code, .int .u32 head, .int .u32 at_, .int .u32 steps, .int .u32 moved, .bool have_, .int .u32 from_, .int .u32 to_, .int .u32 left, .int .u32 next, .bool true] 24))
  have K := Lib.hid (heap_alloc_new w (.cells #[.int .u32 code, .int .u32 head, .int .u32 at_, .int .u32 steps, .int .u32 moved, .bool have_, .int .u32 from_, .int .u32 to_, .int .u32 left, .int .u32 next, .bool true] 24))
  go_enter Tryd.func38, Tryd.ntmps38
  go_wp2_with fail
  refine (HC.out _).mono ?_
  rintro e w1 ⟨rfl, hb⟩
  have K1 := Lib.hid (keepB K.out hb)
  have HB1 := Lib.hid (HB.out.trans (hb.mono HB.out.size))
  clear hb K HB
  have HL : Hid (w.heap.size < w1.heap.size) := Lib.hid (lt_heap K1.out)
  have c0 := (cell_of_row _ _ 0 _ _ _ K1.out).trans (rfl : _ = some (.int .u32 code : Value))
  have c1 := (cell_of_row _ _ 1 _ _ _ K1.out).trans (rfl : _ = some (.int .u32 head : Value))
  have c4 := (cell_of_row _ _ 4 _ _ _ K1.out).trans (rfl : _ = some (.int .u32 moved : Value))
  have c10 := (cell_of_row _ _ 10 _ _ _ K1.out).trans (rfl : _ = some (.bool true : Value))
  have hlt := HL.out
  have hne : w.heap.size ≠ w1.heap.size := by omega
  go_wp2_with fail
  go_ret2
  exact ⟨rfl, HB1.out.alloc HB1.out.size _⟩

set_option maxRecDepth 100000 in
set_option maxHeartbeats 1000000 in
theorem r12_rd_4ny (head at_ steps moved : Nat) (have_ : Bool) (from_ to_ left next : Nat) (code : Nat) (w : World) (hc : code ≠ 1) (HC : Hid (∀ W, Calls Tryd.prog 41 #[.agg #[.int .u32 code, .int .u32 head, .int .u32 at_, .int .u32 steps, .int .u32 moved, .bool have_, .int .u32 from_, .int .u32 to_, .int .u32 left, .int .u32 next, .bool true]] W fun e w' => e = .returned (.int .i64 0) ∧ Below W.heap.size W w')) : Calls Tryd.prog 38 #[.agg #[.int .u32 code, .int .u32 head, .int .u32 at_, .int .u32 steps, .int .u32 moved, .bool have_, .int .u32 from_, .int .u32 to_, .int .u32 left, .int .u32 next, .bool true], .int .u32 4] w fun e w' => e = .returned (.tuple #[.int .u32 code, .int .i64 0]) ∧ Below w.heap.size w w' := by
  have b1 : ((code : Int) == 1) = false := by simp; omega
  clear hc
  have HB := Lib.hid ((Below.refl w.heap.size w).alloc (Nat.le_refl _) (.cells #[.int .u32 code, .int .u32 head, .int .u32 at_, .int .u32 steps, .int .u32 moved, .bool have_, .int .u32 from_, .int .u32 to_, .int .u32 left, .int .u32 next, .bool true] 24))
  have K := Lib.hid (heap_alloc_new w (.cells #[.int .u32 code, .int .u32 head, .int .u32 at_, .int .u32 steps, .int .u32 moved, .bool have_, .int .u32 from_, .int .u32 to_, .int .u32 left, .int .u32 next, .bool true] 24))
  go_enter Tryd.func38, Tryd.ntmps38
  go_wp2_with fail
  refine (HC.out _).mono ?_
  rintro e w1 ⟨rfl, hb⟩
  have K1 := Lib.hid (keepB K.out hb)
  have HB1 := Lib.hid (HB.out.trans (hb.mono HB.out.size))
  clear hb K HB
  have HL : Hid (w.heap.size < w1.heap.size) := Lib.hid (lt_heap K1.out)
  have c0 := (cell_of_row _ _ 0 _ _ _ K1.out).trans (rfl : _ = some (.int .u32 code : Value))
  have c1 := (cell_of_row _ _ 1 _ _ _ K1.out).trans (rfl : _ = some (.int .u32 head : Value))
  have c4 := (cell_of_row _ _ 4 _ _ _ K1.out).trans (rfl : _ = some (.int .u32 moved : Value))
  have c10 := (cell_of_row _ _ 10 _ _ _ K1.out).trans (rfl : _ = some (.bool true : Value))
  have hlt := HL.out
  have hne : w.heap.size ≠ w1.heap.size := by omega
  go_wp2_with fail
  go_ret2
  exact ⟨rfl, HB1.out.alloc HB1.out.size _⟩

set_option maxRecDepth 100000 in
set_option maxHeartbeats 1000000 in
theorem r12_rd_8ny (head at_ steps moved : Nat) (have_ : Bool) (from_ to_ left next : Nat) (code : Nat) (w : World) (hc : code ≠ 1) (HC : Hid (∀ W, Calls Tryd.prog 41 #[.agg #[.int .u32 code, .int .u32 head, .int .u32 at_, .int .u32 steps, .int .u32 moved, .bool have_, .int .u32 from_, .int .u32 to_, .int .u32 left, .int .u32 next, .bool true]] W fun e w' => e = .returned (.int .i64 0) ∧ Below W.heap.size W w')) : Calls Tryd.prog 38 #[.agg #[.int .u32 code, .int .u32 head, .int .u32 at_, .int .u32 steps, .int .u32 moved, .bool have_, .int .u32 from_, .int .u32 to_, .int .u32 left, .int .u32 next, .bool true], .int .u32 8] w fun e w' => e = .returned (.tuple #[.int .u32 head, .int .i64 0]) ∧ Below w.heap.size w w' := by
  have b1 : ((code : Int) == 1) = false := by simp; omega
  clear hc
  have HB := Lib.hid ((Below.refl w.heap.size w).alloc (Nat.le_refl _) (.cells #[.int .u32 code, .int .u32 head, .int .u32 at_, .int .u32 steps, .int .u32 moved, .bool have_, .int .u32 from_, .int .u32 to_, .int .u32 left, .int .u32 next, .bool true] 24))
  have K := Lib.hid (heap_alloc_new w (.cells #[.int .u32 code, .int .u32 head, .int .u32 at_, .int .u32 steps, .int .u32 moved, .bool have_, .int .u32 from_, .int .u32 to_, .int .u32 left, .int .u32 next, .bool true] 24))
  go_enter Tryd.func38, Tryd.ntmps38
  go_wp2_with fail
  refine (HC.out _).mono ?_
  rintro e w1 ⟨rfl, hb⟩
  have K1 := Lib.hid (keepB K.out hb)
  have HB1 := Lib.hid (HB.out.trans (hb.mono HB.out.size))
  clear hb K HB
  have HL : Hid (w.heap.size < w1.heap.size) := Lib.hid (lt_heap K1.out)
  have c0 := (cell_of_row _ _ 0 _ _ _ K1.out).trans (rfl : _ = some (.int .u32 code : Value))
  have c1 := (cell_of_row _ _ 1 _ _ _ K1.out).trans (rfl : _ = some (.int .u32 head : Value))
  have c4 := (cell_of_row _ _ 4 _ _ _ K1.out).trans (rfl : _ = some (.int .u32 moved : Value))
  have c10 := (cell_of_row _ _ 10 _ _ _ K1.out).trans (rfl : _ = some (.bool true : Value))
  have hlt := HL.out
  have hne : w.heap.size ≠ w1.heap.size := by omega
  go_wp2_with fail
  go_ret2
  exact ⟨rfl, HB1.out.alloc HB1.out.size _⟩

set_option maxRecDepth 100000 in
set_option maxHeartbeats 1000000 in
theorem r12_rd_12ny (head at_ steps moved : Nat) (have_ : Bool) (from_ to_ left next : Nat) (code : Nat) (w : World) (hc : code ≠ 1) (HC : Hid (∀ W, Calls Tryd.prog 41 #[.agg #[.int .u32 code, .int .u32 head, .int .u32 at_, .int .u32 steps, .int .u32 moved, .bool have_, .int .u32 from_, .int .u32 to_, .int .u32 left, .int .u32 next, .bool true]] W fun e w' => e = .returned (.int .i64 0) ∧ Below W.heap.size W w')) : Calls Tryd.prog 38 #[.agg #[.int .u32 code, .int .u32 head, .int .u32 at_, .int .u32 steps, .int .u32 moved, .bool have_, .int .u32 from_, .int .u32 to_, .int .u32 left, .int .u32 next, .bool true], .int .u32 12] w fun e w' => e = .returned (.tuple #[.int .u32 moved, .int .i64 0]) ∧ Below w.heap.size w w' := by
  have b1 : ((code : Int) == 1) = false := by simp; omega
  clear hc
  have HB := Lib.hid ((Below.refl w.heap.size w).alloc (Nat.le_refl _) (.cells #[.int .u32 code, .int .u32 head, .int .u32 at_, .int .u32 steps, .int .u32 moved, .bool have_, .int .u32 from_, .int .u32 to_, .int .u32 left, .int .u32 next, .bool true] 24))
  have K := Lib.hid (heap_alloc_new w (.cells #[.int .u32 code, .int .u32 head, .int .u32 at_, .int .u32 steps, .int .u32 moved, .bool have_, .int .u32 from_, .int .u32 to_, .int .u32 left, .int .u32 next, .bool true] 24))
  go_enter Tryd.func38, Tryd.ntmps38
  go_wp2_with fail
  refine (HC.out _).mono ?_
  rintro e w1 ⟨rfl, hb⟩
  have K1 := Lib.hid (keepB K.out hb)
  have HB1 := Lib.hid (HB.out.trans (hb.mono HB.out.size))
  clear hb K HB
  have HL : Hid (w.heap.size < w1.heap.size) := Lib.hid (lt_heap K1.out)
  have c0 := (cell_of_row _ _ 0 _ _ _ K1.out).trans (rfl : _ = some (.int .u32 code : Value))
  have c1 := (cell_of_row _ _ 1 _ _ _ K1.out).trans (rfl : _ = some (.int .u32 head : Value))
  have c4 := (cell_of_row _ _ 4 _ _ _ K1.out).trans (rfl : _ = some (.int .u32 moved : Value))
  have c10 := (cell_of_row _ _ 10 _ _ _ K1.out).trans (rfl : _ = some (.bool true : Value))
  have hlt := HL.out
  have hne : w.heap.size ≠ w1.heap.size := by omega
  go_wp2_with fail
  go_ret2
  exact ⟨rfl, HB1.out.alloc HB1.out.size _⟩

set_option maxRecDepth 100000 in
set_option maxHeartbeats 1000000 in
theorem r12_rd_16ny (head at_ steps moved : Nat) (have_ : Bool) (from_ to_ left next : Nat) (code : Nat) (w : World) (hc : code ≠ 1) (HC : Hid (∀ W, Calls Tryd.prog 41 #[.agg #[.int .u32 code, .int .u32 head, .int .u32 at_, .int .u32 steps, .int .u32 moved, .bool have_, .int .u32 from_, .int .u32 to_, .int .u32 left, .int .u32 next, .bool true]] W fun e w' => e = .returned (.int .i64 0) ∧ Below W.heap.size W w')) : Calls Tryd.prog 38 #[.agg #[.int .u32 code, .int .u32 head, .int .u32 at_, .int .u32 steps, .int .u32 moved, .bool have_, .int .u32 from_, .int .u32 to_, .int .u32 left, .int .u32 next, .bool true], .int .u32 16] w fun e w' => e = .returned (.tuple #[.int .u32 1, .int .i64 0]) ∧ Below w.heap.size w w' := by
  have b1 : ((code : Int) == 1) = false := by simp; omega
  clear hc
  have HB := Lib.hid ((Below.refl w.heap.size w).alloc (Nat.le_refl _) (.cells #[.int .u32 code, .int .u32 head, .int .u32 at_, .int .u32 steps, .int .u32 moved, .bool have_, .int .u32 from_, .int .u32 to_, .int .u32 left, .int .u32 next, .bool true] 24))
  have K := Lib.hid (heap_alloc_new w (.cells #[.int .u32 code, .int .u32 head, .int .u32 at_, .int .u32 steps, .int .u32 moved, .bool have_, .int .u32 from_, .int .u32 to_, .int .u32 left, .int .u32 next, .bool true] 24))
  go_enter Tryd.func38, Tryd.ntmps38
  go_wp2_with fail
  refine (HC.out _).mono ?_
  rintro e w1 ⟨rfl, hb⟩
  have K1 := Lib.hid (keepB K.out hb)
  have HB1 := Lib.hid (HB.out.trans (hb.mono HB.out.size))
  clear hb K HB
  have HL : Hid (w.heap.size < w1.heap.size) := Lib.hid (lt_heap K1.out)
  have c0 := (cell_of_row _ _ 0 _ _ _ K1.out).trans (rfl : _ = some (.int .u32 code : Value))
  have c1 := (cell_of_row _ _ 1 _ _ _ K1.out).trans (rfl : _ = some (.int .u32 head : Value))
  have c4 := (cell_of_row _ _ 4 _ _ _ K1.out).trans (rfl : _ = some (.int .u32 moved : Value))
  have c10 := (cell_of_row _ _ 10 _ _ _ K1.out).trans (rfl : _ = some (.bool true : Value))
  have hlt := HL.out
  have hne : w.heap.size ≠ w1.heap.size := by omega
  go_wp2_with fail
  go_ret2
  exact ⟨rfl, HB1.out.alloc HB1.out.size _⟩

set_option maxRecDepth 100000 in
set_option maxHeartbeats 1000000 in
theorem r12_rd_xny (head at_ steps moved : Nat) (have_ : Bool) (from_ to_ left next : Nat) (code : Nat) (at_x : Nat) (w : World) (hc : code ≠ 1) (ha : at_x < 256) (hm : at_x % 4 = 0) (h20 : 20 ≤ at_x) (HC : Hid (∀ W, Calls Tryd.prog 41 #[.agg #[.int .u32 code, .int .u32 head, .int .u32 at_, .int .u32 steps, .int .u32 moved, .bool have_, .int .u32 from_, .int .u32 to_, .int .u32 left, .int .u32 next, .bool true]] W fun e w' => e = .returned (.int .i64 0) ∧ Below W.heap.size W w')) : Calls Tryd.prog 38 #[.agg #[.int .u32 code, .int .u32 head, .int .u32 at_, .int .u32 steps, .int .u32 moved, .bool have_, .int .u32 from_, .int .u32 to_, .int .u32 left, .int .u32 next, .bool true], .int .u32 at_x] w fun e w' => e = .returned (.tuple #[.int .u32 0, .int .i64 0]) ∧ Below w.heap.size w w' := by
  have b1 : ((code : Int) == 1) = false := by simp; omega
  have g1 : decide ((255 : Int) < (at_x : Int)) = false := decide_eq_false (by omega)
  have g2 : (((at_x : Int) % 4) != 0) = false := by simp; omega
  have g3 : decide ((at_x : Int) / 4 % 4294967296 < 5) = false := decide_eq_false (by omega)
  have g4 : (0 : Int) ≤ (at_x : Int) := by omega
  clear ha hm h20 hc
  have HB := Lib.hid ((Below.refl w.heap.size w).alloc (Nat.le_refl _) (.cells #[.int .u32 code, .int .u32 head, .int .u32 at_, .int .u32 steps, .int .u32 moved, .bool have_, .int .u32 from_, .int .u32 to_, .int .u32 left, .int .u32 next, .bool true] 24))
  have K := Lib.hid (heap_alloc_new w (.cells #[.int .u32 code, .int .u32 head, .int .u32 at_, .int .u32 steps, .int .u32 moved, .bool have_, .int .u32 from_, .int .u32 to_, .int .u32 left, .int .u32 next, .bool true] 24))
  go_enter Tryd.func38, Tryd.ntmps38
  go_wp2_with fail
  refine (HC.out _).mono ?_
  rintro e w1 ⟨rfl, hb⟩
  have K1 := Lib.hid (keepB K.out hb)
  have HB1 := Lib.hid (HB.out.trans (hb.mono HB.out.size))
  clear hb K HB
  have HL : Hid (w.heap.size < w1.heap.size) := Lib.hid (lt_heap K1.out)
  have c0 := (cell_of_row _ _ 0 _ _ _ K1.out).trans (rfl : _ = some (.int .u32 code : Value))
  have c1 := (cell_of_row _ _ 1 _ _ _ K1.out).trans (rfl : _ = some (.int .u32 head : Value))
  have c4 := (cell_of_row _ _ 4 _ _ _ K1.out).trans (rfl : _ = some (.int .u32 moved : Value))
  have c10 := (cell_of_row _ _ 10 _ _ _ K1.out).trans (rfl : _ = some (.bool true : Value))
  have hlt := HL.out
  have hne : w.heap.size ≠ w1.heap.size := by omega
  go_wp2_with fail
  go_ret2
  exact ⟨rfl, HB1.out.alloc HB1.out.size _⟩

set_option maxRecDepth 100000 in
set_option maxHeartbeats 1000000 in
theorem r12_rd_0nn (head at_ steps moved : Nat) (have_ : Bool) (from_ to_ left next : Nat) (code : Nat) (w : World) (hc : code ≠ 1) (HC : Hid (∀ W, Calls Tryd.prog 41 #[.agg #[.int .u32 code, .int .u32 head, .int .u32 at_, .int .u32 steps, .int .u32 moved, .bool have_, .int .u32 from_, .int .u32 to_, .int .u32 left, .int .u32 next, .bool false]] W fun e w' => e = .returned (.int .i64 0) ∧ Below W.heap.size W w')) : Calls Tryd.prog 38 #[.agg #[.int .u32 code, .int .u32 head, .int .u32 at_, .int .u32 steps, .int .u32 moved, .bool have_, .int .u32 from_, .int .u32 to_, .int .u32 left, .int .u32 next, .bool false], .int .u32 0] w fun e w' => e = .returned (.tuple #[.int .u32 0, .int .i64 0]) ∧ Below w.heap.size w w' := by
  have b1 : ((code : Int) == 1) = false := by simp; omega
  clear hc
  have HB := Lib.hid ((Below.refl w.heap.size w).alloc (Nat.le_refl _) (.cells #[.int .u32 code, .int .u32 head, .int .u32 at_, .int .u32 steps, .int .u32 moved, .bool have_, .int .u32 from_, .int .u32 to_, .int .u32 left, .int .u32 next, .bool false] 24))
  have K := Lib.hid (heap_alloc_new w (.cells #[.int .u32 code, .int .u32 head, .int .u32 at_, .int .u32 steps, .int .u32 moved, .bool have_, .int .u32 from_, .int .u32 to_, .int .u32 left, .int .u32 next, .bool false] 24))
  go_enter Tryd.func38, Tryd.ntmps38
  go_wp2_with fail
  refine (HC.out _).mono ?_
  rintro e w1 ⟨rfl, hb⟩
  have K1 := Lib.hid (keepB K.out hb)
  have HB1 := Lib.hid (HB.out.trans (hb.mono HB.out.size))
  clear hb K HB
  have HL : Hid (w.heap.size < w1.heap.size) := Lib.hid (lt_heap K1.out)
  have c0 := (cell_of_row _ _ 0 _ _ _ K1.out).trans (rfl : _ = some (.int .u32 code : Value))
  have c1 := (cell_of_row _ _ 1 _ _ _ K1.out).trans (rfl : _ = some (.int .u32 head : Value))
  have c4 := (cell_of_row _ _ 4 _ _ _ K1.out).trans (rfl : _ = some (.int .u32 moved : Value))
  have c10 := (cell_of_row _ _ 10 _ _ _ K1.out).trans (rfl : _ = some (.bool false : Value))
  have hlt := HL.out
  have hne : w.heap.size ≠ w1.heap.size := by omega
  go_wp2_with fail
  go_ret2
  exact ⟨rfl, HB1.out.alloc HB1.out.size _⟩

set_option maxRecDepth 100000 in
set_option maxHeartbeats 1000000 in
theorem r12_rd_4nn (head at_ steps moved : Nat) (have_ : Bool) (from_ to_ left next : Nat) (code : Nat) (w : World) (hc : code ≠ 1) (HC : Hid (∀ W, Calls Tryd.prog 41 #[.agg #[.int .u32 code, .int .u32 head, .int .u32 at_, .int .u32 steps, .int .u32 moved, .bool have_, .int .u32 from_, .int .u32 to_, .int .u32 left, .int .u32 next, .bool false]] W fun e w' => e = .returned (.int .i64 0) ∧ Below W.heap.size W w')) : Calls Tryd.prog 38 #[.agg #[.int .u32 code, .int .u32 head, .int .u32 at_, .int .u32 steps, .int .u32 moved, .bool have_, .int .u32 from_, .int .u32 to_, .int .u32 left, .int .u32 next, .bool false], .int .u32 4] w fun e w' => e = .returned (.tuple #[.int .u32 code, .int .i64 0]) ∧ Below w.heap.size w w' := by
  have b1 : ((code : Int) == 1) = false := by simp; omega
  clear hc
  have HB := Lib.hid ((Below.refl w.heap.size w).alloc (Nat.le_refl _) (.cells #[.int .u32 code, .int .u32 head, .int .u32 at_, .int .u32 steps, .int .u32 moved, .bool have_, .int .u32 from_, .int .u32 to_, .int .u32 left, .int .u32 next, .bool false] 24))
  have K := Lib.hid (heap_alloc_new w (.cells #[.int .u32 code, .int .u32 head, .int .u32 at_, .int .u32 steps, .int .u32 moved, .bool have_, .int .u32 from_, .int .u32 to_, .int .u32 left, .int .u32 next, .bool false] 24))
  go_enter Tryd.func38, Tryd.ntmps38
  go_wp2_with fail
  refine (HC.out _).mono ?_
  rintro e w1 ⟨rfl, hb⟩
  have K1 := Lib.hid (keepB K.out hb)
  have HB1 := Lib.hid (HB.out.trans (hb.mono HB.out.size))
  clear hb K HB
  have HL : Hid (w.heap.size < w1.heap.size) := Lib.hid (lt_heap K1.out)
  have c0 := (cell_of_row _ _ 0 _ _ _ K1.out).trans (rfl : _ = some (.int .u32 code : Value))
  have c1 := (cell_of_row _ _ 1 _ _ _ K1.out).trans (rfl : _ = some (.int .u32 head : Value))
  have c4 := (cell_of_row _ _ 4 _ _ _ K1.out).trans (rfl : _ = some (.int .u32 moved : Value))
  have c10 := (cell_of_row _ _ 10 _ _ _ K1.out).trans (rfl : _ = some (.bool false : Value))
  have hlt := HL.out
  have hne : w.heap.size ≠ w1.heap.size := by omega
  go_wp2_with fail
  go_ret2
  exact ⟨rfl, HB1.out.alloc HB1.out.size _⟩

set_option maxRecDepth 100000 in
set_option maxHeartbeats 1000000 in
theorem r12_rd_8nn (head at_ steps moved : Nat) (have_ : Bool) (from_ to_ left next : Nat) (code : Nat) (w : World) (hc : code ≠ 1) (HC : Hid (∀ W, Calls Tryd.prog 41 #[.agg #[.int .u32 code, .int .u32 head, .int .u32 at_, .int .u32 steps, .int .u32 moved, .bool have_, .int .u32 from_, .int .u32 to_, .int .u32 left, .int .u32 next, .bool false]] W fun e w' => e = .returned (.int .i64 0) ∧ Below W.heap.size W w')) : Calls Tryd.prog 38 #[.agg #[.int .u32 code, .int .u32 head, .int .u32 at_, .int .u32 steps, .int .u32 moved, .bool have_, .int .u32 from_, .int .u32 to_, .int .u32 left, .int .u32 next, .bool false], .int .u32 8] w fun e w' => e = .returned (.tuple #[.int .u32 head, .int .i64 0]) ∧ Below w.heap.size w w' := by
  have b1 : ((code : Int) == 1) = false := by simp; omega
  clear hc
  have HB := Lib.hid ((Below.refl w.heap.size w).alloc (Nat.le_refl _) (.cells #[.int .u32 code, .int .u32 head, .int .u32 at_, .int .u32 steps, .int .u32 moved, .bool have_, .int .u32 from_, .int .u32 to_, .int .u32 left, .int .u32 next, .bool false] 24))
  have K := Lib.hid (heap_alloc_new w (.cells #[.int .u32 code, .int .u32 head, .int .u32 at_, .int .u32 steps, .int .u32 moved, .bool have_, .int .u32 from_, .int .u32 to_, .int .u32 left, .int .u32 next, .bool false] 24))
  go_enter Tryd.func38, Tryd.ntmps38
  go_wp2_with fail
  refine (HC.out _).mono ?_
  rintro e w1 ⟨rfl, hb⟩
  have K1 := Lib.hid (keepB K.out hb)
  have HB1 := Lib.hid (HB.out.trans (hb.mono HB.out.size))
  clear hb K HB
  have HL : Hid (w.heap.size < w1.heap.size) := Lib.hid (lt_heap K1.out)
  have c0 := (cell_of_row _ _ 0 _ _ _ K1.out).trans (rfl : _ = some (.int .u32 code : Value))
  have c1 := (cell_of_row _ _ 1 _ _ _ K1.out).trans (rfl : _ = some (.int .u32 head : Value))
  have c4 := (cell_of_row _ _ 4 _ _ _ K1.out).trans (rfl : _ = some (.int .u32 moved : Value))
  have c10 := (cell_of_row _ _ 10 _ _ _ K1.out).trans (rfl : _ = some (.bool false : Value))
  have hlt := HL.out
  have hne : w.heap.size ≠ w1.heap.size := by omega
  go_wp2_with fail
  go_ret2
  exact ⟨rfl, HB1.out.alloc HB1.out.size _⟩

set_option maxRecDepth 100000 in
set_option maxHeartbeats 1000000 in
theorem r12_rd_12nn (head at_ steps moved : Nat) (have_ : Bool) (from_ to_ left next : Nat) (code : Nat) (w : World) (hc : code ≠ 1) (HC : Hid (∀ W, Calls Tryd.prog 41 #[.agg #[.int .u32 code, .int .u32 head, .int .u32 at_, .int .u32 steps, .int .u32 moved, .bool have_, .int .u32 from_, .int .u32 to_, .int .u32 left, .int .u32 next, .bool false]] W fun e w' => e = .returned (.int .i64 0) ∧ Below W.heap.size W w')) : Calls Tryd.prog 38 #[.agg #[.int .u32 code, .int .u32 head, .int .u32 at_, .int .u32 steps, .int .u32 moved, .bool have_, .int .u32 from_, .int .u32 to_, .int .u32 left, .int .u32 next, .bool false], .int .u32 12] w fun e w' => e = .returned (.tuple #[.int .u32 moved, .int .i64 0]) ∧ Below w.heap.size w w' := by
  have b1 : ((code : Int) == 1) = false := by simp; omega
  clear hc
  have HB := Lib.hid ((Below.refl w.heap.size w).alloc (Nat.le_refl _) (.cells #[.int .u32 code, .int .u32 head, .int .u32 at_, .int .u32 steps, .int .u32 moved, .bool have_, .int .u32 from_, .int .u32 to_, .int .u32 left, .int .u32 next, .bool false] 24))
  have K := Lib.hid (heap_alloc_new w (.cells #[.int .u32 code, .int .u32 head, .int .u32 at_, .int .u32 steps, .int .u32 moved, .bool have_, .int .u32 from_, .int .u32 to_, .int .u32 left, .int .u32 next, .bool false] 24))
  go_enter Tryd.func38, Tryd.ntmps38
  go_wp2_with fail
  refine (HC.out _).mono ?_
  rintro e w1 ⟨rfl, hb⟩
  have K1 := Lib.hid (keepB K.out hb)
  have HB1 := Lib.hid (HB.out.trans (hb.mono HB.out.size))
  clear hb K HB
  have HL : Hid (w.heap.size < w1.heap.size) := Lib.hid (lt_heap K1.out)
  have c0 := (cell_of_row _ _ 0 _ _ _ K1.out).trans (rfl : _ = some (.int .u32 code : Value))
  have c1 := (cell_of_row _ _ 1 _ _ _ K1.out).trans (rfl : _ = some (.int .u32 head : Value))
  have c4 := (cell_of_row _ _ 4 _ _ _ K1.out).trans (rfl : _ = some (.int .u32 moved : Value))
  have c10 := (cell_of_row _ _ 10 _ _ _ K1.out).trans (rfl : _ = some (.bool false : Value))
  have hlt := HL.out
  have hne : w.heap.size ≠ w1.heap.size := by omega
  go_wp2_with fail
  go_ret2
  exact ⟨rfl, HB1.out.alloc HB1.out.size _⟩

set_option maxRecDepth 100000 in
set_option maxHeartbeats 1000000 in
theorem r12_rd_16nn (head at_ steps moved : Nat) (have_ : Bool) (from_ to_ left next : Nat) (code : Nat) (w : World) (hc : code ≠ 1) (HC : Hid (∀ W, Calls Tryd.prog 41 #[.agg #[.int .u32 code, .int .u32 head, .int .u32 at_, .int .u32 steps, .int .u32 moved, .bool have_, .int .u32 from_, .int .u32 to_, .int .u32 left, .int .u32 next, .bool false]] W fun e w' => e = .returned (.int .i64 0) ∧ Below W.heap.size W w')) : Calls Tryd.prog 38 #[.agg #[.int .u32 code, .int .u32 head, .int .u32 at_, .int .u32 steps, .int .u32 moved, .bool have_, .int .u32 from_, .int .u32 to_, .int .u32 left, .int .u32 next, .bool false], .int .u32 16] w fun e w' => e = .returned (.tuple #[.int .u32 0, .int .i64 0]) ∧ Below w.heap.size w w' := by
  have b1 : ((code : Int) == 1) = false := by simp; omega
  clear hc
  have HB := Lib.hid ((Below.refl w.heap.size w).alloc (Nat.le_refl _) (.cells #[.int .u32 code, .int .u32 head, .int .u32 at_, .int .u32 steps, .int .u32 moved, .bool have_, .int .u32 from_, .int .u32 to_, .int .u32 left, .int .u32 next, .bool false] 24))
  have K := Lib.hid (heap_alloc_new w (.cells #[.int .u32 code, .int .u32 head, .int .u32 at_, .int .u32 steps, .int .u32 moved, .bool have_, .int .u32 from_, .int .u32 to_, .int .u32 left, .int .u32 next, .bool false] 24))
  go_enter Tryd.func38, Tryd.ntmps38
  go_wp2_with fail
  refine (HC.out _).mono ?_
  rintro e w1 ⟨rfl, hb⟩
  have K1 := Lib.hid (keepB K.out hb)
  have HB1 := Lib.hid (HB.out.trans (hb.mono HB.out.size))
  clear hb K HB
  have HL : Hid (w.heap.size < w1.heap.size) := Lib.hid (lt_heap K1.out)
  have c0 := (cell_of_row _ _ 0 _ _ _ K1.out).trans (rfl : _ = some (.int .u32 code : Value))
  have c1 := (cell_of_row _ _ 1 _ _ _ K1.out).trans (rfl : _ = some (.int .u32 head : Value))
  have c4 := (cell_of_row _ _ 4 _ _ _ K1.out).trans (rfl : _ = some (.int .u32 moved : Value))
  have c10 := (cell_of_row _ _ 10 _ _ _ K1.out).trans (rfl : _ = some (.bool false : Value))
  have hlt := HL.out
  have hne : w.heap.size ≠ w1.heap.size := by omega
  go_wp2_with fail
  go_ret2
  exact ⟨rfl, HB1.out.alloc HB1.out.size _⟩

set_option maxRecDepth 100000 in
set_option maxHeartbeats 1000000 in
theorem r12_rd_xnn (head at_ steps moved : Nat) (have_ : Bool) (from_ to_ left next : Nat) (code : Nat) (at_x : Nat) (w : World) (hc : code ≠ 1) (ha : at_x < 256) (hm : at_x % 4 = 0) (h20 : 20 ≤ at_x) (HC : Hid (∀ W, Calls Tryd.prog 41 #[.agg #[.int .u32 code, .int .u32 head, .int .u32 at_, .int .u32 steps, .int .u32 moved, .bool have_, .int .u32 from_, .int .u32 to_, .int .u32 left, .int .u32 next, .bool false]] W fun e w' => e = .returned (.int .i64 0) ∧ Below W.heap.size W w')) : Calls Tryd.prog 38 #[.agg #[.int .u32 code, .int .u32 head, .int .u32 at_, .int .u32 steps, .int .u32 moved, .bool have_, .int .u32 from_, .int .u32 to_, .int .u32 left, .int .u32 next, .bool false], .int .u32 at_x] w fun e w' => e = .returned (.tuple #[.int .u32 0, .int .i64 0]) ∧ Below w.heap.size w w' := by
  have b1 : ((code : Int) == 1) = false := by simp; omega
  have g1 : decide ((255 : Int) < (at_x : Int)) = false := decide_eq_false (by omega)
  have g2 : (((at_x : Int) % 4) != 0) = false := by simp; omega
  have g3 : decide ((at_x : Int) / 4 % 4294967296 < 5) = false := decide_eq_false (by omega)
  have g4 : (0 : Int) ≤ (at_x : Int) := by omega
  clear ha hm h20 hc
  have HB := Lib.hid ((Below.refl w.heap.size w).alloc (Nat.le_refl _) (.cells #[.int .u32 code, .int .u32 head, .int .u32 at_, .int .u32 steps, .int .u32 moved, .bool have_, .int .u32 from_, .int .u32 to_, .int .u32 left, .int .u32 next, .bool false] 24))
  have K := Lib.hid (heap_alloc_new w (.cells #[.int .u32 code, .int .u32 head, .int .u32 at_, .int .u32 steps, .int .u32 moved, .bool have_, .int .u32 from_, .int .u32 to_, .int .u32 left, .int .u32 next, .bool false] 24))
  go_enter Tryd.func38, Tryd.ntmps38
  go_wp2_with fail
  refine (HC.out _).mono ?_
  rintro e w1 ⟨rfl, hb⟩
  have K1 := Lib.hid (keepB K.out hb)
  have HB1 := Lib.hid (HB.out.trans (hb.mono HB.out.size))
  clear hb K HB
  have HL : Hid (w.heap.size < w1.heap.size) := Lib.hid (lt_heap K1.out)
  have c0 := (cell_of_row _ _ 0 _ _ _ K1.out).trans (rfl : _ = some (.int .u32 code : Value))
  have c1 := (cell_of_row _ _ 1 _ _ _ K1.out).trans (rfl : _ = some (.int .u32 head : Value))
  have c4 := (cell_of_row _ _ 4 _ _ _ K1.out).trans (rfl : _ = some (.int .u32 moved : Value))
  have c10 := (cell_of_row _ _ 10 _ _ _ K1.out).trans (rfl : _ = some (.bool false : Value))
  have hlt := HL.out
  have hne : w.heap.size ≠ w1.heap.size := by omega
  go_wp2_with fail
  go_ret2
  exact ⟨rfl, HB1.out.alloc HB1.out.size _⟩

def Dst.rd (s : Dst) (a : Nat) : Nat :=
  if s.rerr a ≠ 0 then 0 else if a = 0 then (if s.code = 1 then 1 else 0) else if a = 4 then s.code else if a = 8 then s.head else if a = 12 then s.moved else if a = 16 then (if s.asks then 1 else 0) else 0
theorem dma_ReadAny (s : Dst) (a : Nat) (w : World) (ha : a < 4294967296) :
    Calls Tryd.prog 37 #[.agg s.c, .int .u32 a] w fun e w' => e = .returned (.tuple #[.int .u32 (s.rd a : Nat), errV (s.rerr a)]) ∧ Below w.heap.size w w' := by
  unfold Dst.rd
  by_cases hs : s.okP
  · by_cases hb : 256 ≤ a ∨ a % 4 ≠ 0
    · have HC := Lib.hid (fun W => if h : 256 ≤ a then dma_bad_far s a W ha hs h else dma_bad_odd s a W ha hs (by omega) (by omega))
      rw [rerr_bus hs hb, if_pos (by omega)]
      obtain ⟨code, head, at_, steps, moved, have_, from_, to_, left, next, asks⟩ := s
      exact dma_rd_bad20 head at_ steps moved have_ from_ to_ left next asks code a w HC
    · have HC := Lib.hid (fun W => dma_bad_ok s a W ha hs (by omega) (by omega))
      rw [rerr_ok hs (by omega) (by omega), if_neg (by omega)]
      clear hs
      obtain ⟨code, head, at_, steps, moved, have_, from_, to_, left, next, asks⟩ := s
      by_cases h0 : a = 0
      · subst h0
        rw [if_pos rfl]
        by_cases hc : code = 1
        · subst hc
          exact dma_rd_0y head at_ steps moved have_ from_ to_ left next asks w HC
        · rw [if_neg hc]
          exact dma_rd_0n head at_ steps moved have_ from_ to_ left next asks code w hc HC
      · rw [if_neg h0]
        by_cases h4 : a = 4
        · subst h4
          exact dma_rd_4 head at_ steps moved have_ from_ to_ left next asks code w HC
        · rw [if_neg h4]
          by_cases h8 : a = 8
          · subst h8
            exact dma_rd_8 head at_ steps moved have_ from_ to_ left next asks code w HC
          · rw [if_neg h8]
            by_cases h12 : a = 12
            · subst h12
              exact dma_rd_12 head at_ steps moved have_ from_ to_ left next asks code w HC
            · rw [if_neg h12]
              by_cases h16 : a = 16
              · subst h16
                rw [if_pos rfl]
                cases asks
                · exact dma_rd_16n head at_ steps moved have_ from_ to_ left next code w HC
                · exact dma_rd_16y head at_ steps moved have_ from_ to_ left next code w HC
              · rw [if_neg h16]
                exact dma_rd_x head at_ steps moved have_ from_ to_ left next asks code a w h0 h4 h8 h12 h16 HC
  · have HC := Lib.hid (fun W => dma_bad_state s a W ha hs)
    rw [rerr_bad a hs, if_pos (by omega)]
    obtain ⟨code, head, at_, steps, moved, have_, from_, to_, left, next, asks⟩ := s
    exact dma_rd_bad1 head at_ steps moved have_ from_ to_ left next asks code a w HC
theorem ref12_ReadAny (s : Dst) (a : Nat) (w : World) :
    Calls Tryd.prog 38 #[.agg s.c, .int .u32 a] w fun e w' => e = .returned (.tuple #[.int .u32 (s.rd a : Nat), .int .i64 (s.rerr a : Nat)]) ∧ Below w.heap.size w w' := by
  have HC := Lib.hid (fun W => ref12_Check s W)
  unfold Dst.rd
  by_cases hs : s.okP
  · rw [if_pos hs] at HC
    by_cases hb : 256 ≤ a ∨ a % 4 ≠ 0
    · rw [rerr_bus hs hb, if_pos (by omega)]
      obtain ⟨code, head, at_, steps, moved, have_, from_, to_, left, next, asks⟩ := s
      by_cases hf : 256 ≤ a
      · exact r12_rd_far head at_ steps moved have_ from_ to_ left next asks code a w hf HC
      · exact r12_rd_odd head at_ steps moved have_ from_ to_ left next asks code a w (by omega) (by omega) HC
    · rw [rerr_ok hs (by omega) (by omega), if_neg (by omega)]
      clear hs
      obtain ⟨code, head, at_, steps, moved, have_, from_, to_, left, next, asks⟩ := s
      by_cases hc : code = 1
      · subst hc
        cases asks
        · by_cases h0 : a = 0
          · subst h0
            rw [if_pos rfl]
            exact r12_rd_0yn head at_ steps moved have_ from_ to_ left next w HC
          · rw [if_neg h0]
            by_cases h4 : a = 4
            · subst h4
              exact r12_rd_4yn head at_ steps moved have_ from_ to_ left next w HC
            · rw [if_neg h4]
              by_cases h8 : a = 8
              · subst h8
                exact r12_rd_8yn head at_ steps moved have_ from_ to_ left next w HC
              · rw [if_neg h8]
                by_cases h12 : a = 12
                · subst h12
                  exact r12_rd_12yn head at_ steps moved have_ from_ to_ left next w HC
                · rw [if_neg h12]
                  by_cases h16 : a = 16
                  · subst h16
                    exact r12_rd_16yn head at_ steps moved have_ from_ to_ left next w HC
                  · rw [if_neg h16]
                    exact r12_rd_xyn head at_ steps moved have_ from_ to_ left next a w (by omega) (by omega) (by omega) HC
        · by_cases h0 : a = 0
          · subst h0
            rw [if_pos rfl]
            exact r12_rd_0yy head at_ steps moved have_ from_ to_ left next w HC
          · rw [if_neg h0]
            by_cases h4 : a = 4
            · subst h4
              exact r12_rd_4yy head at_ steps moved have_ from_ to_ left next w HC
            · rw [if_neg h4]
              by_cases h8 : a = 8
              · subst h8
                exact r12_rd_8yy head at_ steps moved have_ from_ to_ left next w HC
              · rw [if_neg h8]
                by_cases h12 : a = 12
                · subst h12
                  exact r12_rd_12yy head at_ steps moved have_ from_ to_ left next w HC
                · rw [if_neg h12]
                  by_cases h16 : a = 16
                  · subst h16
                    exact r12_rd_16yy head at_ steps moved have_ from_ to_ left next w HC
                  · rw [if_neg h16]
                    exact r12_rd_xyy head at_ steps moved have_ from_ to_ left next a w (by omega) (by omega) (by omega) HC
      · cases asks
        · by_cases h0 : a = 0
          · subst h0
            rw [if_pos rfl, if_neg hc]
            exact r12_rd_0nn head at_ steps moved have_ from_ to_ left next code w hc HC
          · rw [if_neg h0]
            by_cases h4 : a = 4
            · subst h4
              exact r12_rd_4nn head at_ steps moved have_ from_ to_ left next code w hc HC
            · rw [if_neg h4]
              by_cases h8 : a = 8
              · subst h8
                exact r12_rd_8nn head at_ steps moved have_ from_ to_ left next code w hc HC
              · rw [if_neg h8]
                by_cases h12 : a = 12
                · subst h12
                  exact r12_rd_12nn head at_ steps moved have_ from_ to_ left next code w hc HC
                · rw [if_neg h12]
                  by_cases h16 : a = 16
                  · subst h16
                    exact r12_rd_16nn head at_ steps moved have_ from_ to_ left next code w hc HC
                  · rw [if_neg h16]
                    exact r12_rd_xnn head at_ steps moved have_ from_ to_ left next code a w hc (by omega) (by omega) (by omega) HC
        · by_cases h0 : a = 0
          · subst h0
            rw [if_pos rfl, if_neg hc]
            exact r12_rd_0ny head at_ steps moved have_ from_ to_ left next code w hc HC
          · rw [if_neg h0]
            by_cases h4 : a = 4
            · subst h4
              exact r12_rd_4ny head at_ steps moved have_ from_ to_ left next code w hc HC
            · rw [if_neg h4]
              by_cases h8 : a = 8
              · subst h8
                exact r12_rd_8ny head at_ steps moved have_ from_ to_ left next code w hc HC
              · rw [if_neg h8]
                by_cases h12 : a = 12
                · subst h12
                  exact r12_rd_12ny head at_ steps moved have_ from_ to_ left next code w hc HC
                · rw [if_neg h12]
                  by_cases h16 : a = 16
                  · subst h16
                    exact r12_rd_16ny head at_ steps moved have_ from_ to_ left next code w hc HC
                  · rw [if_neg h16]
                    exact r12_rd_xny head at_ steps moved have_ from_ to_ left next code a w hc (by omega) (by omega) (by omega) HC
  · rw [if_neg hs] at HC
    rw [rerr_bad a hs, if_pos (by omega)]
    obtain ⟨code, head, at_, steps, moved, have_, from_, to_, left, next, asks⟩ := s
    exact r12_rd_bad head at_ steps moved have_ from_ to_ left next asks code a w HC

end Go.Proofs.YtcakcfeipfjmpaaDoor
