/-
pinnaceref12's Check, fail, in, walked.
No condition.
-/
import Derived.Test.YtcakcfeipfjmpaaDoorDmaSpec
import Derived.Test.YtcakcfeipfjmpaaDoorRefRam
namespace Go.Proofs.YtcakcfeipfjmpaaDoor
open Go.RowKit

set_option maxRecDepth 100000 in
theorem rck_big (code : Nat) (head : Nat) (at_ : Nat) (steps : Nat) (moved : Nat) (have_ : Bool) (from_ : Nat) (to_ : Nat) (left : Nat) (next : Nat) (asks : Bool) (w : World) (h0 : decide ((3 : Int) < (code : Int)) = true) : Calls Tryd.prog 41 #[.agg #[.int .u32 code, .int .u32 head, .int .u32 at_, .int .u32 steps, .int .u32 moved, .bool have_, .int .u32 from_, .int .u32 to_, .int .u32 left, .int .u32 next, .bool asks]] w fun e w' => e = .returned (.int .i64 1) ∧ Below w.heap.size w w' := by
  have HB := Lib.hid ((Below.refl w.heap.size w).alloc (Nat.le_refl _) (.cells #[.int .u32 code, .int .u32 head, .int .u32 at_, .int .u32 steps, .int .u32 moved, .bool have_, .int .u32 from_, .int .u32 to_, .int .u32 left, .int .u32 next, .bool asks] 24))
  have K := Lib.hid (heap_alloc_new w (.cells #[.int .u32 code, .int .u32 head, .int .u32 at_, .int .u32 steps, .int .u32 moved, .bool have_, .int .u32 from_, .int .u32 to_, .int .u32 left, .int .u32 next, .bool asks] 24))
  go_enter Tryd.func41, Tryd.ntmps41
  go_wp2_with fail
  go_ret
  exact ⟨rfl, HB.out⟩
set_option maxRecDepth 100000 in
theorem rck_ne1 (code : Nat) (head : Nat) (at_ : Nat) (steps : Nat) (moved : Nat) (from_ : Nat) (to_ : Nat) (left : Nat) (next : Nat) (asks : Bool) (w : World) (h0 : decide ((3 : Int) < (code : Int)) = false) (h1 : ((code : Int) != 1) = true) : Calls Tryd.prog 41 #[.agg #[.int .u32 code, .int .u32 head, .int .u32 at_, .int .u32 steps, .int .u32 moved, .bool true, .int .u32 from_, .int .u32 to_, .int .u32 left, .int .u32 next, .bool asks]] w fun e w' => e = .returned (.int .i64 1) ∧ Below w.heap.size w w' := by
  have HB := Lib.hid ((Below.refl w.heap.size w).alloc (Nat.le_refl _) (.cells #[.int .u32 code, .int .u32 head, .int .u32 at_, .int .u32 steps, .int .u32 moved, .bool true, .int .u32 from_, .int .u32 to_, .int .u32 left, .int .u32 next, .bool asks] 24))
  have K := Lib.hid (heap_alloc_new w (.cells #[.int .u32 code, .int .u32 head, .int .u32 at_, .int .u32 steps, .int .u32 moved, .bool true, .int .u32 from_, .int .u32 to_, .int .u32 left, .int .u32 next, .bool asks] 24))
  go_enter Tryd.func41, Tryd.ntmps41
  go_wp2_with fail
  go_ret
  exact ⟨rfl, HB.out⟩
set_option maxRecDepth 100000 in
theorem rck_h_asks (head : Nat) (at_ : Nat) (steps : Nat) (moved : Nat) (from_ : Nat) (to_ : Nat) (left : Nat) (next : Nat) (w : World)  : Calls Tryd.prog 41 #[.agg #[.int .u32 1, .int .u32 head, .int .u32 at_, .int .u32 steps, .int .u32 moved, .bool true, .int .u32 from_, .int .u32 to_, .int .u32 left, .int .u32 next, .bool true]] w fun e w' => e = .returned (.int .i64 1) ∧ Below w.heap.size w w' := by
  have HB := Lib.hid ((Below.refl w.heap.size w).alloc (Nat.le_refl _) (.cells #[.int .u32 1, .int .u32 head, .int .u32 at_, .int .u32 steps, .int .u32 moved, .bool true, .int .u32 from_, .int .u32 to_, .int .u32 left, .int .u32 next, .bool true] 24))
  have K := Lib.hid (heap_alloc_new w (.cells #[.int .u32 1, .int .u32 head, .int .u32 at_, .int .u32 steps, .int .u32 moved, .bool true, .int .u32 from_, .int .u32 to_, .int .u32 left, .int .u32 next, .bool true] 24))
  go_enter Tryd.func41, Tryd.ntmps41
  go_wp2_with fail
  go_ret
  exact ⟨rfl, HB.out⟩
set_option maxRecDepth 100000 in
theorem rck_h_steps (head : Nat) (at_ : Nat) (steps : Nat) (moved : Nat) (from_ : Nat) (to_ : Nat) (left : Nat) (next : Nat) (w : World) (h0 : decide ((64 : Int) < (steps : Int)) = true) : Calls Tryd.prog 41 #[.agg #[.int .u32 1, .int .u32 head, .int .u32 at_, .int .u32 steps, .int .u32 moved, .bool true, .int .u32 from_, .int .u32 to_, .int .u32 left, .int .u32 next, .bool false]] w fun e w' => e = .returned (.int .i64 1) ∧ Below w.heap.size w w' := by
  have HB := Lib.hid ((Below.refl w.heap.size w).alloc (Nat.le_refl _) (.cells #[.int .u32 1, .int .u32 head, .int .u32 at_, .int .u32 steps, .int .u32 moved, .bool true, .int .u32 from_, .int .u32 to_, .int .u32 left, .int .u32 next, .bool false] 24))
  have K := Lib.hid (heap_alloc_new w (.cells #[.int .u32 1, .int .u32 head, .int .u32 at_, .int .u32 steps, .int .u32 moved, .bool true, .int .u32 from_, .int .u32 to_, .int .u32 left, .int .u32 next, .bool false] 24))
  go_enter Tryd.func41, Tryd.ntmps41
  go_wp2_with fail
  go_ret
  exact ⟨rfl, HB.out⟩
set_option maxRecDepth 100000 in
theorem rck_h_l0 (head : Nat) (at_ : Nat) (steps : Nat) (moved : Nat) (from_ : Nat) (to_ : Nat) (next : Nat) (w : World) (h0 : decide ((64 : Int) < (steps : Int)) = false) : Calls Tryd.prog 41 #[.agg #[.int .u32 1, .int .u32 head, .int .u32 at_, .int .u32 steps, .int .u32 moved, .bool true, .int .u32 from_, .int .u32 to_, .int .u32 0, .int .u32 next, .bool false]] w fun e w' => e = .returned (.int .i64 1) ∧ Below w.heap.size w w' := by
  have HB := Lib.hid ((Below.refl w.heap.size w).alloc (Nat.le_refl _) (.cells #[.int .u32 1, .int .u32 head, .int .u32 at_, .int .u32 steps, .int .u32 moved, .bool true, .int .u32 from_, .int .u32 to_, .int .u32 0, .int .u32 next, .bool false] 24))
  have K := Lib.hid (heap_alloc_new w (.cells #[.int .u32 1, .int .u32 head, .int .u32 at_, .int .u32 steps, .int .u32 moved, .bool true, .int .u32 from_, .int .u32 to_, .int .u32 0, .int .u32 next, .bool false] 24))
  go_enter Tryd.func41, Tryd.ntmps41
  go_wp2_with fail
  go_ret
  exact ⟨rfl, HB.out⟩
set_option maxRecDepth 100000 in
theorem rck_h_lb (head : Nat) (at_ : Nat) (steps : Nat) (moved : Nat) (from_ : Nat) (to_ : Nat) (left : Nat) (next : Nat) (w : World) (h0 : decide ((64 : Int) < (steps : Int)) = false) (h1 : ((left : Int) == 0) = false) (h2 : decide ((65536 : Int) < (left : Int)) = true) : Calls Tryd.prog 41 #[.agg #[.int .u32 1, .int .u32 head, .int .u32 at_, .int .u32 steps, .int .u32 moved, .bool true, .int .u32 from_, .int .u32 to_, .int .u32 left, .int .u32 next, .bool false]] w fun e w' => e = .returned (.int .i64 1) ∧ Below w.heap.size w w' := by
  have HB := Lib.hid ((Below.refl w.heap.size w).alloc (Nat.le_refl _) (.cells #[.int .u32 1, .int .u32 head, .int .u32 at_, .int .u32 steps, .int .u32 moved, .bool true, .int .u32 from_, .int .u32 to_, .int .u32 left, .int .u32 next, .bool false] 24))
  have K := Lib.hid (heap_alloc_new w (.cells #[.int .u32 1, .int .u32 head, .int .u32 at_, .int .u32 steps, .int .u32 moved, .bool true, .int .u32 from_, .int .u32 to_, .int .u32 left, .int .u32 next, .bool false] 24))
  go_enter Tryd.func41, Tryd.ntmps41
  go_wp2_with fail
  go_ret
  exact ⟨rfl, HB.out⟩
set_option maxRecDepth 100000 in
theorem rck_h_ok (head : Nat) (at_ : Nat) (steps : Nat) (moved : Nat) (from_ : Nat) (to_ : Nat) (left : Nat) (next : Nat) (w : World) (h0 : decide ((64 : Int) < (steps : Int)) = false) (h1 : ((left : Int) == 0) = false) (h2 : decide ((65536 : Int) < (left : Int)) = false) : Calls Tryd.prog 41 #[.agg #[.int .u32 1, .int .u32 head, .int .u32 at_, .int .u32 steps, .int .u32 moved, .bool true, .int .u32 from_, .int .u32 to_, .int .u32 left, .int .u32 next, .bool false]] w fun e w' => e = .returned (.int .i64 0) ∧ Below w.heap.size w w' := by
  have HB := Lib.hid ((Below.refl w.heap.size w).alloc (Nat.le_refl _) (.cells #[.int .u32 1, .int .u32 head, .int .u32 at_, .int .u32 steps, .int .u32 moved, .bool true, .int .u32 from_, .int .u32 to_, .int .u32 left, .int .u32 next, .bool false] 24))
  have K := Lib.hid (heap_alloc_new w (.cells #[.int .u32 1, .int .u32 head, .int .u32 at_, .int .u32 steps, .int .u32 moved, .bool true, .int .u32 from_, .int .u32 to_, .int .u32 left, .int .u32 next, .bool false] 24))
  go_enter Tryd.func41, Tryd.ntmps41
  go_wp2_with fail
  go_ret
  exact ⟨rfl, HB.out⟩
set_option maxRecDepth 100000 in
theorem rck_a_lt (code : Nat) (head : Nat) (at_ : Nat) (steps : Nat) (moved : Nat) (from_ : Nat) (to_ : Nat) (left : Nat) (next : Nat) (w : World) (h0 : decide ((3 : Int) < (code : Int)) = false) (h1 : decide ((code : Int) < 2) = true) : Calls Tryd.prog 41 #[.agg #[.int .u32 code, .int .u32 head, .int .u32 at_, .int .u32 steps, .int .u32 moved, .bool false, .int .u32 from_, .int .u32 to_, .int .u32 left, .int .u32 next, .bool true]] w fun e w' => e = .returned (.int .i64 1) ∧ Below w.heap.size w w' := by
  have HB := Lib.hid ((Below.refl w.heap.size w).alloc (Nat.le_refl _) (.cells #[.int .u32 code, .int .u32 head, .int .u32 at_, .int .u32 steps, .int .u32 moved, .bool false, .int .u32 from_, .int .u32 to_, .int .u32 left, .int .u32 next, .bool true] 24))
  have K := Lib.hid (heap_alloc_new w (.cells #[.int .u32 code, .int .u32 head, .int .u32 at_, .int .u32 steps, .int .u32 moved, .bool false, .int .u32 from_, .int .u32 to_, .int .u32 left, .int .u32 next, .bool true] 24))
  go_enter Tryd.func41, Tryd.ntmps41
  go_wp2_with fail
  go_ret
  exact ⟨rfl, HB.out⟩
set_option maxRecDepth 100000 in
theorem rck_a_steps (code : Nat) (head : Nat) (at_ : Nat) (steps : Nat) (moved : Nat) (from_ : Nat) (to_ : Nat) (left : Nat) (next : Nat) (w : World) (h0 : decide ((3 : Int) < (code : Int)) = false) (h1 : decide ((code : Int) < 2) = false) (h2 : decide ((64 : Int) < (steps : Int)) = true) : Calls Tryd.prog 41 #[.agg #[.int .u32 code, .int .u32 head, .int .u32 at_, .int .u32 steps, .int .u32 moved, .bool false, .int .u32 from_, .int .u32 to_, .int .u32 left, .int .u32 next, .bool true]] w fun e w' => e = .returned (.int .i64 1) ∧ Below w.heap.size w w' := by
  have HB := Lib.hid ((Below.refl w.heap.size w).alloc (Nat.le_refl _) (.cells #[.int .u32 code, .int .u32 head, .int .u32 at_, .int .u32 steps, .int .u32 moved, .bool false, .int .u32 from_, .int .u32 to_, .int .u32 left, .int .u32 next, .bool true] 24))
  have K := Lib.hid (heap_alloc_new w (.cells #[.int .u32 code, .int .u32 head, .int .u32 at_, .int .u32 steps, .int .u32 moved, .bool false, .int .u32 from_, .int .u32 to_, .int .u32 left, .int .u32 next, .bool true] 24))
  go_enter Tryd.func41, Tryd.ntmps41
  go_wp2_with fail
  go_ret
  exact ⟨rfl, HB.out⟩
set_option maxRecDepth 100000 in
theorem rck_a_from (code : Nat) (head : Nat) (at_ : Nat) (steps : Nat) (moved : Nat) (from_ : Nat) (to_ : Nat) (left : Nat) (next : Nat) (w : World) (h0 : decide ((3 : Int) < (code : Int)) = false) (h1 : decide ((code : Int) < 2) = false) (h2 : decide ((64 : Int) < (steps : Int)) = false) (h3 : ((from_ : Int) != 0) = true) : Calls Tryd.prog 41 #[.agg #[.int .u32 code, .int .u32 head, .int .u32 at_, .int .u32 steps, .int .u32 moved, .bool false, .int .u32 from_, .int .u32 to_, .int .u32 left, .int .u32 next, .bool true]] w fun e w' => e = .returned (.int .i64 1) ∧ Below w.heap.size w w' := by
  have HB := Lib.hid ((Below.refl w.heap.size w).alloc (Nat.le_refl _) (.cells #[.int .u32 code, .int .u32 head, .int .u32 at_, .int .u32 steps, .int .u32 moved, .bool false, .int .u32 from_, .int .u32 to_, .int .u32 left, .int .u32 next, .bool true] 24))
  have K := Lib.hid (heap_alloc_new w (.cells #[.int .u32 code, .int .u32 head, .int .u32 at_, .int .u32 steps, .int .u32 moved, .bool false, .int .u32 from_, .int .u32 to_, .int .u32 left, .int .u32 next, .bool true] 24))
  go_enter Tryd.func41, Tryd.ntmps41
  go_wp2_with fail
  go_ret
  exact ⟨rfl, HB.out⟩
set_option maxRecDepth 100000 in
theorem rck_a_to (code : Nat) (head : Nat) (at_ : Nat) (steps : Nat) (moved : Nat) (to_ : Nat) (left : Nat) (next : Nat) (w : World) (h0 : decide ((3 : Int) < (code : Int)) = false) (h1 : decide ((code : Int) < 2) = false) (h2 : decide ((64 : Int) < (steps : Int)) = false) (h3 : ((to_ : Int) != 0) = true) : Calls Tryd.prog 41 #[.agg #[.int .u32 code, .int .u32 head, .int .u32 at_, .int .u32 steps, .int .u32 moved, .bool false, .int .u32 0, .int .u32 to_, .int .u32 left, .int .u32 next, .bool true]] w fun e w' => e = .returned (.int .i64 1) ∧ Below w.heap.size w w' := by
  have HB := Lib.hid ((Below.refl w.heap.size w).alloc (Nat.le_refl _) (.cells #[.int .u32 code, .int .u32 head, .int .u32 at_, .int .u32 steps, .int .u32 moved, .bool false, .int .u32 0, .int .u32 to_, .int .u32 left, .int .u32 next, .bool true] 24))
  have K := Lib.hid (heap_alloc_new w (.cells #[.int .u32 code, .int .u32 head, .int .u32 at_, .int .u32 steps, .int .u32 moved, .bool false, .int .u32 0, .int .u32 to_, .int .u32 left, .int .u32 next, .bool true] 24))
  go_enter Tryd.func41, Tryd.ntmps41
  go_wp2_with fail
  go_ret
  exact ⟨rfl, HB.out⟩
set_option maxRecDepth 100000 in
theorem rck_a_left (code : Nat) (head : Nat) (at_ : Nat) (steps : Nat) (moved : Nat) (left : Nat) (next : Nat) (w : World) (h0 : decide ((3 : Int) < (code : Int)) = false) (h1 : decide ((code : Int) < 2) = false) (h2 : decide ((64 : Int) < (steps : Int)) = false) (h3 : ((left : Int) != 0) = true) : Calls Tryd.prog 41 #[.agg #[.int .u32 code, .int .u32 head, .int .u32 at_, .int .u32 steps, .int .u32 moved, .bool false, .int .u32 0, .int .u32 0, .int .u32 left, .int .u32 next, .bool true]] w fun e w' => e = .returned (.int .i64 1) ∧ Below w.heap.size w w' := by
  have HB := Lib.hid ((Below.refl w.heap.size w).alloc (Nat.le_refl _) (.cells #[.int .u32 code, .int .u32 head, .int .u32 at_, .int .u32 steps, .int .u32 moved, .bool false, .int .u32 0, .int .u32 0, .int .u32 left, .int .u32 next, .bool true] 24))
  have K := Lib.hid (heap_alloc_new w (.cells #[.int .u32 code, .int .u32 head, .int .u32 at_, .int .u32 steps, .int .u32 moved, .bool false, .int .u32 0, .int .u32 0, .int .u32 left, .int .u32 next, .bool true] 24))
  go_enter Tryd.func41, Tryd.ntmps41
  go_wp2_with fail
  go_ret
  exact ⟨rfl, HB.out⟩
set_option maxRecDepth 100000 in
theorem rck_a_next (code : Nat) (head : Nat) (at_ : Nat) (steps : Nat) (moved : Nat) (next : Nat) (w : World) (h0 : decide ((3 : Int) < (code : Int)) = false) (h1 : decide ((code : Int) < 2) = false) (h2 : decide ((64 : Int) < (steps : Int)) = false) (h3 : ((next : Int) != 0) = true) : Calls Tryd.prog 41 #[.agg #[.int .u32 code, .int .u32 head, .int .u32 at_, .int .u32 steps, .int .u32 moved, .bool false, .int .u32 0, .int .u32 0, .int .u32 0, .int .u32 next, .bool true]] w fun e w' => e = .returned (.int .i64 1) ∧ Below w.heap.size w w' := by
  have HB := Lib.hid ((Below.refl w.heap.size w).alloc (Nat.le_refl _) (.cells #[.int .u32 code, .int .u32 head, .int .u32 at_, .int .u32 steps, .int .u32 moved, .bool false, .int .u32 0, .int .u32 0, .int .u32 0, .int .u32 next, .bool true] 24))
  have K := Lib.hid (heap_alloc_new w (.cells #[.int .u32 code, .int .u32 head, .int .u32 at_, .int .u32 steps, .int .u32 moved, .bool false, .int .u32 0, .int .u32 0, .int .u32 0, .int .u32 next, .bool true] 24))
  go_enter Tryd.func41, Tryd.ntmps41
  go_wp2_with fail
  go_ret
  exact ⟨rfl, HB.out⟩
set_option maxRecDepth 100000 in
theorem rck_a_ok (code : Nat) (head : Nat) (at_ : Nat) (steps : Nat) (moved : Nat) (w : World) (h0 : decide ((3 : Int) < (code : Int)) = false) (h1 : decide ((code : Int) < 2) = false) (h2 : decide ((64 : Int) < (steps : Int)) = false) : Calls Tryd.prog 41 #[.agg #[.int .u32 code, .int .u32 head, .int .u32 at_, .int .u32 steps, .int .u32 moved, .bool false, .int .u32 0, .int .u32 0, .int .u32 0, .int .u32 0, .bool true]] w fun e w' => e = .returned (.int .i64 0) ∧ Below w.heap.size w w' := by
  have HB := Lib.hid ((Below.refl w.heap.size w).alloc (Nat.le_refl _) (.cells #[.int .u32 code, .int .u32 head, .int .u32 at_, .int .u32 steps, .int .u32 moved, .bool false, .int .u32 0, .int .u32 0, .int .u32 0, .int .u32 0, .bool true] 24))
  have K := Lib.hid (heap_alloc_new w (.cells #[.int .u32 code, .int .u32 head, .int .u32 at_, .int .u32 steps, .int .u32 moved, .bool false, .int .u32 0, .int .u32 0, .int .u32 0, .int .u32 0, .bool true] 24))
  go_enter Tryd.func41, Tryd.ntmps41
  go_wp2_with fail
  go_ret
  exact ⟨rfl, HB.out⟩
set_option maxRecDepth 100000 in
theorem rck_n_steps (code : Nat) (head : Nat) (at_ : Nat) (steps : Nat) (moved : Nat) (from_ : Nat) (to_ : Nat) (left : Nat) (next : Nat) (w : World) (h0 : decide ((3 : Int) < (code : Int)) = false) (h1 : decide ((64 : Int) < (steps : Int)) = true) : Calls Tryd.prog 41 #[.agg #[.int .u32 code, .int .u32 head, .int .u32 at_, .int .u32 steps, .int .u32 moved, .bool false, .int .u32 from_, .int .u32 to_, .int .u32 left, .int .u32 next, .bool false]] w fun e w' => e = .returned (.int .i64 1) ∧ Below w.heap.size w w' := by
  have HB := Lib.hid ((Below.refl w.heap.size w).alloc (Nat.le_refl _) (.cells #[.int .u32 code, .int .u32 head, .int .u32 at_, .int .u32 steps, .int .u32 moved, .bool false, .int .u32 from_, .int .u32 to_, .int .u32 left, .int .u32 next, .bool false] 24))
  have K := Lib.hid (heap_alloc_new w (.cells #[.int .u32 code, .int .u32 head, .int .u32 at_, .int .u32 steps, .int .u32 moved, .bool false, .int .u32 from_, .int .u32 to_, .int .u32 left, .int .u32 next, .bool false] 24))
  go_enter Tryd.func41, Tryd.ntmps41
  go_wp2_with fail
  go_ret
  exact ⟨rfl, HB.out⟩
set_option maxRecDepth 100000 in
theorem rck_n_from (code : Nat) (head : Nat) (at_ : Nat) (steps : Nat) (moved : Nat) (from_ : Nat) (to_ : Nat) (left : Nat) (next : Nat) (w : World) (h0 : decide ((3 : Int) < (code : Int)) = false) (h1 : decide ((64 : Int) < (steps : Int)) = false) (h2 : ((from_ : Int) != 0) = true) : Calls Tryd.prog 41 #[.agg #[.int .u32 code, .int .u32 head, .int .u32 at_, .int .u32 steps, .int .u32 moved, .bool false, .int .u32 from_, .int .u32 to_, .int .u32 left, .int .u32 next, .bool false]] w fun e w' => e = .returned (.int .i64 1) ∧ Below w.heap.size w w' := by
  have HB := Lib.hid ((Below.refl w.heap.size w).alloc (Nat.le_refl _) (.cells #[.int .u32 code, .int .u32 head, .int .u32 at_, .int .u32 steps, .int .u32 moved, .bool false, .int .u32 from_, .int .u32 to_, .int .u32 left, .int .u32 next, .bool false] 24))
  have K := Lib.hid (heap_alloc_new w (.cells #[.int .u32 code, .int .u32 head, .int .u32 at_, .int .u32 steps, .int .u32 moved, .bool false, .int .u32 from_, .int .u32 to_, .int .u32 left, .int .u32 next, .bool false] 24))
  go_enter Tryd.func41, Tryd.ntmps41
  go_wp2_with fail
  go_ret
  exact ⟨rfl, HB.out⟩
set_option maxRecDepth 100000 in
theorem rck_n_to (code : Nat) (head : Nat) (at_ : Nat) (steps : Nat) (moved : Nat) (to_ : Nat) (left : Nat) (next : Nat) (w : World) (h0 : decide ((3 : Int) < (code : Int)) = false) (h1 : decide ((64 : Int) < (steps : Int)) = false) (h2 : ((to_ : Int) != 0) = true) : Calls Tryd.prog 41 #[.agg #[.int .u32 code, .int .u32 head, .int .u32 at_, .int .u32 steps, .int .u32 moved, .bool false, .int .u32 0, .int .u32 to_, .int .u32 left, .int .u32 next, .bool false]] w fun e w' => e = .returned (.int .i64 1) ∧ Below w.heap.size w w' := by
  have HB := Lib.hid ((Below.refl w.heap.size w).alloc (Nat.le_refl _) (.cells #[.int .u32 code, .int .u32 head, .int .u32 at_, .int .u32 steps, .int .u32 moved, .bool false, .int .u32 0, .int .u32 to_, .int .u32 left, .int .u32 next, .bool false] 24))
  have K := Lib.hid (heap_alloc_new w (.cells #[.int .u32 code, .int .u32 head, .int .u32 at_, .int .u32 steps, .int .u32 moved, .bool false, .int .u32 0, .int .u32 to_, .int .u32 left, .int .u32 next, .bool false] 24))
  go_enter Tryd.func41, Tryd.ntmps41
  go_wp2_with fail
  go_ret
  exact ⟨rfl, HB.out⟩
set_option maxRecDepth 100000 in
theorem rck_n_left (code : Nat) (head : Nat) (at_ : Nat) (steps : Nat) (moved : Nat) (left : Nat) (next : Nat) (w : World) (h0 : decide ((3 : Int) < (code : Int)) = false) (h1 : decide ((64 : Int) < (steps : Int)) = false) (h2 : ((left : Int) != 0) = true) : Calls Tryd.prog 41 #[.agg #[.int .u32 code, .int .u32 head, .int .u32 at_, .int .u32 steps, .int .u32 moved, .bool false, .int .u32 0, .int .u32 0, .int .u32 left, .int .u32 next, .bool false]] w fun e w' => e = .returned (.int .i64 1) ∧ Below w.heap.size w w' := by
  have HB := Lib.hid ((Below.refl w.heap.size w).alloc (Nat.le_refl _) (.cells #[.int .u32 code, .int .u32 head, .int .u32 at_, .int .u32 steps, .int .u32 moved, .bool false, .int .u32 0, .int .u32 0, .int .u32 left, .int .u32 next, .bool false] 24))
  have K := Lib.hid (heap_alloc_new w (.cells #[.int .u32 code, .int .u32 head, .int .u32 at_, .int .u32 steps, .int .u32 moved, .bool false, .int .u32 0, .int .u32 0, .int .u32 left, .int .u32 next, .bool false] 24))
  go_enter Tryd.func41, Tryd.ntmps41
  go_wp2_with fail
  go_ret
  exact ⟨rfl, HB.out⟩
set_option maxRecDepth 100000 in
theorem rck_n_next (code : Nat) (head : Nat) (at_ : Nat) (steps : Nat) (moved : Nat) (next : Nat) (w : World) (h0 : decide ((3 : Int) < (code : Int)) = false) (h1 : decide ((64 : Int) < (steps : Int)) = false) (h2 : ((next : Int) != 0) = true) : Calls Tryd.prog 41 #[.agg #[.int .u32 code, .int .u32 head, .int .u32 at_, .int .u32 steps, .int .u32 moved, .bool false, .int .u32 0, .int .u32 0, .int .u32 0, .int .u32 next, .bool false]] w fun e w' => e = .returned (.int .i64 1) ∧ Below w.heap.size w w' := by
  have HB := Lib.hid ((Below.refl w.heap.size w).alloc (Nat.le_refl _) (.cells #[.int .u32 code, .int .u32 head, .int .u32 at_, .int .u32 steps, .int .u32 moved, .bool false, .int .u32 0, .int .u32 0, .int .u32 0, .int .u32 next, .bool false] 24))
  have K := Lib.hid (heap_alloc_new w (.cells #[.int .u32 code, .int .u32 head, .int .u32 at_, .int .u32 steps, .int .u32 moved, .bool false, .int .u32 0, .int .u32 0, .int .u32 0, .int .u32 next, .bool false] 24))
  go_enter Tryd.func41, Tryd.ntmps41
  go_wp2_with fail
  go_ret
  exact ⟨rfl, HB.out⟩
set_option maxRecDepth 100000 in
theorem rck_n_ok (code : Nat) (head : Nat) (at_ : Nat) (steps : Nat) (moved : Nat) (w : World) (h0 : decide ((3 : Int) < (code : Int)) = false) (h1 : decide ((64 : Int) < (steps : Int)) = false) : Calls Tryd.prog 41 #[.agg #[.int .u32 code, .int .u32 head, .int .u32 at_, .int .u32 steps, .int .u32 moved, .bool false, .int .u32 0, .int .u32 0, .int .u32 0, .int .u32 0, .bool false]] w fun e w' => e = .returned (.int .i64 0) ∧ Below w.heap.size w w' := by
  have HB := Lib.hid ((Below.refl w.heap.size w).alloc (Nat.le_refl _) (.cells #[.int .u32 code, .int .u32 head, .int .u32 at_, .int .u32 steps, .int .u32 moved, .bool false, .int .u32 0, .int .u32 0, .int .u32 0, .int .u32 0, .bool false] 24))
  have K := Lib.hid (heap_alloc_new w (.cells #[.int .u32 code, .int .u32 head, .int .u32 at_, .int .u32 steps, .int .u32 moved, .bool false, .int .u32 0, .int .u32 0, .int .u32 0, .int .u32 0, .bool false] 24))
  go_enter Tryd.func41, Tryd.ntmps41
  go_wp2_with fail
  go_ret
  exact ⟨rfl, HB.out⟩
theorem ref12_Check (s : Dst) (w : World) : Calls Tryd.prog 41 #[.agg s.c] w fun e w' => e = .returned (.int .i64 (if s.okP then 0 else 1)) ∧ Below w.heap.size w w' := by
  obtain ⟨code, head, at_, steps, moved, have_, from_, to_, left, next, asks⟩ := s
  have bd : ∀ (p : Prop) [Decidable p], ¬ p → decide p = false := fun p _ h => decide_eq_false h
  have bt : ∀ (p : Prop) [Decidable p], p → decide p = true := fun p _ h => decide_eq_true h
  have ne : ∀ (a b : Nat), a ≠ b → ((a : Int) != (b : Int)) = true := fun a b h => by simp; omega
  have eq0 : ∀ (a b : Nat), a ≠ b → ((a : Int) == (b : Int)) = false := fun a b h => by simp; omega
  simp only [Dst.c]
  by_cases h3 : 3 < code
  · rw [if_neg (fun h => absurd h.c (by show ¬ code ≤ 3; omega))]
    exact rck_big code head at_ steps moved have_ from_ to_ left next asks w (bt _ (by omega))
  · have b3 := bd ((3 : Int) < (code : Int)) (by omega)
    cases have_
    · skip
      cases asks
      · by_cases hs : 64 < steps
        · rw [if_neg (fun h => absurd h.st (by show ¬ steps ≤ 64; omega))]
          exact rck_n_steps code head at_ steps moved from_ to_ left next w b3 (bt _ (by omega))
        · have bs := bd ((64 : Int) < (steps : Int)) (by omega)
          by_cases hf : from_ = 0
          · subst hf
            by_cases ht : to_ = 0
            · subst ht
              by_cases hl : left = 0
              · subst hl
                by_cases hn : next = 0
                · subst hn
                  rw [if_pos ⟨by show code ≤ 3; omega, fun h => (by cases h), fun h => (by cases h), by show steps ≤ 64; omega, fun h => (by cases h), fun _ => ⟨rfl, rfl, rfl, rfl⟩⟩]
                  exact rck_n_ok code head at_ steps moved w b3 bs
                · rw [if_neg (fun h => hn (h.z rfl).2.2.2)]
                  exact rck_n_next code head at_ steps moved next w b3 bs (ne _ 0 hn)
              · rw [if_neg (fun h => hl (h.z rfl).2.2.1)]
                exact rck_n_left code head at_ steps moved left next w b3 bs (ne _ 0 hl)
            · rw [if_neg (fun h => ht (h.z rfl).2.1)]
              exact rck_n_to code head at_ steps moved to_ left next w b3 bs (ne _ 0 ht)
          · rw [if_neg (fun h => hf (h.z rfl).1)]
            exact rck_n_from code head at_ steps moved from_ to_ left next w b3 bs (ne _ 0 hf)
      · by_cases h2 : code < 2
        · rw [if_neg (fun h => absurd (h.a rfl) (by show ¬ 2 ≤ code; omega))]
          exact rck_a_lt code head at_ steps moved from_ to_ left next w b3 (bt _ (by omega))
        · have b2 := bd ((code : Int) < 2) (by omega)
          · by_cases hs : 64 < steps
            · rw [if_neg (fun h => absurd h.st (by show ¬ steps ≤ 64; omega))]
              exact rck_a_steps code head at_ steps moved from_ to_ left next w b3 b2 (bt _ (by omega))
            · have bs := bd ((64 : Int) < (steps : Int)) (by omega)
              by_cases hf : from_ = 0
              · subst hf
                by_cases ht : to_ = 0
                · subst ht
                  by_cases hl : left = 0
                  · subst hl
                    by_cases hn : next = 0
                    · subst hn
                      rw [if_pos ⟨by show code ≤ 3; omega, fun h => (by cases h), fun _ => (by show 2 ≤ code; omega), by show steps ≤ 64; omega, fun h => (by cases h), fun _ => ⟨rfl, rfl, rfl, rfl⟩⟩]
                      exact rck_a_ok code head at_ steps moved w b3 b2 bs
                    · rw [if_neg (fun h => hn (h.z rfl).2.2.2)]
                      exact rck_a_next code head at_ steps moved next w b3 b2 bs (ne _ 0 hn)
                  · rw [if_neg (fun h => hl (h.z rfl).2.2.1)]
                    exact rck_a_left code head at_ steps moved left next w b3 b2 bs (ne _ 0 hl)
                · rw [if_neg (fun h => ht (h.z rfl).2.1)]
                  exact rck_a_to code head at_ steps moved to_ left next w b3 b2 bs (ne _ 0 ht)
              · rw [if_neg (fun h => hf (h.z rfl).1)]
                exact rck_a_from code head at_ steps moved from_ to_ left next w b3 b2 bs (ne _ 0 hf)
    · by_cases h1 : code = 1
      · subst h1
        cases asks
        · by_cases hs : 64 < steps
          · rw [if_neg (fun h => absurd h.st (by show ¬ steps ≤ 64; omega))]
            exact rck_h_steps head at_ steps moved from_ to_ left next w (bt _ (by omega))
          · have bs := bd ((64 : Int) < (steps : Int)) (by omega)
            by_cases hl : left = 0
            · subst hl
              rw [if_neg (fun h => absurd (h.l rfl).1 (by show ¬ 1 ≤ 0; omega))]
              exact rck_h_l0 head at_ steps moved from_ to_ next w bs
            · by_cases hb : 65536 < left
              · rw [if_neg (fun h => absurd (h.l rfl).2 (by show ¬ left ≤ 65536; omega))]
                exact rck_h_lb head at_ steps moved from_ to_ left next w bs (eq0 _ 0 hl) (bt _ (by omega))
              · rw [if_pos ⟨by show 1 ≤ 3; omega, fun _ => rfl, fun h => (by cases h), by show steps ≤ 64; omega, fun _ => ⟨by show 1 ≤ left; omega, by show left ≤ 65536; omega⟩, fun h => (by cases h)⟩]
                exact rck_h_ok head at_ steps moved from_ to_ left next w bs (eq0 _ 0 hl) (bd _ (by omega))
        · rw [if_neg (fun h => absurd (h.a rfl) (by show ¬ 2 ≤ 1; omega))]
          exact rck_h_asks head at_ steps moved from_ to_ left next w 
      · rw [if_neg (fun h => h1 (h.h rfl))]
        exact rck_ne1 code head at_ steps moved from_ to_ left next asks w b3 (ne _ 1 h1)

set_option maxRecDepth 100000 in
theorem ref12_fail (s : Dst) (w : World) : Calls Tryd.prog 55 #[.agg s.c] w fun e w' => e = .returned (.agg (s.ended 3).c) ∧ Below w.heap.size w w' := by
  obtain ⟨code, head, at_, steps, moved, have_, from_, to_, left, next, asks⟩ := s
  simp only [Dst.c, Dst.without, Dst.ended]
  obtain ⟨k0, k1, hb0⟩ := two_new w (.cells #[.int .u32 code, .int .u32 head, .int .u32 at_, .int .u32 steps, .int .u32 moved, .bool have_, .int .u32 from_, .int .u32 to_, .int .u32 left, .int .u32 next, .bool asks] 24) (.cells #[.int .u32 0, .int .u32 0, .int .u32 0, .int .u32 0, .int .u32 0, .bool false, .int .u32 0, .int .u32 0, .int .u32 0, .int .u32 0, .bool false] 24)
  have K0 := Lib.hid k0
  have K1 := Lib.hid k1
  have HB0 := Lib.hid hb0
  clear k0 k1 hb0
  have HO := Lib.hid (show (#[.int .u32 3, .int .u32 head, .int .u32 at_, .int .u32 steps, .int .u32 moved, .bool false, .int .u32 0, .int .u32 0, .int .u32 0, .int .u32 0, .bool true] : Array Value).all (·.oneCell') = true by simp [Value.oneCell'])
  go_enter Tryd.func55, Tryd.ntmps55
  go_wp2_with (refine wpList_store_to rfl 24 _ _ rfl (w.heap.size + 1) #[.int .u32 3, .int .u32 head, .int .u32 at_, .int .u32 steps, .int .u32 moved, .bool false, .int .u32 0, .int .u32 0, .int .u32 0, .int .u32 0, .bool true] rfl rfl 24 #[.int .u32 0, .int .u32 0, .int .u32 0, .int .u32 0, .int .u32 0, .bool false, .int .u32 0, .int .u32 0, .int .u32 0, .int .u32 0, .bool false] K1.out (by kernel_rfl) rfl HO.out ?_)
  intro w2 hx hk
  have HB := Lib.hid (HB0.out.trans (hx.out.below (B := w.heap.size) (fun k hk e => by omega) HB0.out.size))
  go_wp2_with fail
  exact bodyPost_ret (v := .agg #[.int .u32 3, .int .u32 head, .int .u32 at_, .int .u32 steps, .int .u32 moved, .bool false, .int .u32 0, .int .u32 0, .int .u32 0, .int .u32 0, .bool true]) (results_cell_row Tryd.results55 _ _ (w.heap.size + 1) 24 #[.int .u32 3, .int .u32 head, .int .u32 at_, .int .u32 steps, .int .u32 moved, .bool false, .int .u32 0, .int .u32 0, .int .u32 0, .int .u32 0, .bool true] (0, 0) _ rfl hk Tryd.underlying24 rfl (by kernel_rfl)) rfl ⟨rfl, HB.out⟩
set_option maxRecDepth 100000 in
theorem ref12_in (p p2 : Option Addr) (N c1 n2 c2 : Nat) (q : Int) (a n : Nat) (w : World) (hN : N ≤ 67108864) (ha : a < 4294967296) (hn : n < 4294967296) :
    Calls Tryd.prog 54 #[.agg #[.slice p N c1, .slice p2 n2 c2, .int .i64 q], .int .u32 a, .int .u32 n] w fun e w' => e = .returned (.bool (decide (2147483648 ≤ a ∧ a - 2147483648 + n ≤ N))) ∧ Below w.heap.size w w' := by
  have HB := Lib.hid ((Below.refl w.heap.size w).alloc (Nat.le_refl _) (.cells #[.slice p N c1, .slice p2 n2 c2, .int .i64 q] 30))
  have K := Lib.hid (heap_alloc_new w (.cells #[.slice p N c1, .slice p2 n2 c2, .int .i64 q] 30))
  by_cases h1 : 2147483648 ≤ a
  · have b1 : decide ((2147483648 : Int) ≤ (a : Int)) = true := decide_eq_true (by omega)
    obtain ⟨x, rfl⟩ : ∃ x, a = x + 2147483648 := ⟨a - 2147483648, by omega⟩
    have ex : ((x + 2147483648 : Nat) : Int) = (x : Int) + 2147483648 := by omega
    rw [ex] at b1
    rw [ex, Nat.add_sub_cancel]
    have hx0 : (0 : Int) ≤ x := by omega
    have hx1 : (x : Int) < 2147483648 := by omega
    have hn0 : (0 : Int) ≤ n := by omega
    have hn1 : (n : Int) < 4294967296 := by omega
    by_cases h2 : x + n ≤ N
    · have b2 : decide ((x : Int) + (n : Int) ≤ (N : Int)) = true := decide_eq_true (by omega)
      rw [decide_eq_true ⟨h1, h2⟩]
      go_enter Tryd.func54, Tryd.ntmps54
      go_wp2_with fail
      go_ret
      exact ⟨rfl, HB.out⟩
    · have b2 : decide ((x : Int) + (n : Int) ≤ (N : Int)) = false := decide_eq_false (by omega)
      rw [decide_eq_false (fun h => h2 h.2)]
      go_enter Tryd.func54, Tryd.ntmps54
      go_wp2_with fail
      go_ret
      exact ⟨rfl, HB.out⟩
  · have b1 : decide ((2147483648 : Int) ≤ (a : Int)) = false := decide_eq_false (by omega)
    rw [decide_eq_false (fun h => h1 h.1)]
    go_enter Tryd.func54, Tryd.ntmps54
    go_wp2_with fail
    go_ret
    exact ⟨rfl, HB.out⟩
end Go.Proofs.YtcakcfeipfjmpaaDoor
