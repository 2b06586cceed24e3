/-
Check of package dma, walked.
No condition.
-/
import Derived.Test.YtcakcfeipfjmpaaDoorDma
namespace Go.Proofs.YtcakcfeipfjmpaaDoor
open Go.RowKit

structure Dst.okP (s : Dst) : Prop where
  c : s.code ≤ 3
  h : s.have_ = true → s.code = 1
  a : s.asks = true → 2 ≤ s.code
  st : s.steps ≤ 64
  l : s.have_ = true → 1 ≤ s.left ∧ s.left ≤ 65536
  z : s.have_ = false → s.from_ = 0 ∧ s.to_ = 0 ∧ s.left = 0 ∧ s.next = 0
theorem Dst.okP_iff (s : Dst) : s.okP ↔ s.code ≤ 3 ∧ (s.have_ = true → s.code = 1) ∧ (s.asks = true → 2 ≤ s.code) ∧ s.steps ≤ 64 ∧ (s.have_ = true → 1 ≤ s.left ∧ s.left ≤ 65536) ∧ (s.have_ = false → s.from_ = 0 ∧ s.to_ = 0 ∧ s.left = 0 ∧ s.next = 0) :=
  ⟨fun h => ⟨h.c, h.h, h.a, h.st, h.l, h.z⟩, fun h => ⟨h.1, h.2.1, h.2.2.1, h.2.2.2.1, h.2.2.2.2.1, h.2.2.2.2.2⟩⟩
instance (s : Dst) : Decidable s.okP := decidable_of_iff' _ (Dst.okP_iff s)
set_option maxRecDepth 100000 in
set_option maxHeartbeats 4000000 in
theorem dck_big_true_true (head at_ steps moved from_ to_ left next : Nat) (code : Nat) (w : World) (h3 : 3 < code) : Calls Tryd.prog 15 #[.agg #[.int .u32 (code : Nat), .int .u32 (head : Nat), .int .u32 (at_ : Nat), .int .u32 (steps : Nat), .int .u32 (moved : Nat), .bool true, .int .u32 (from_ : Nat), .int .u32 (to_ : Nat), .int .u32 (left : Nat), .int .u32 (next : Nat), .bool true]] w fun e w' => e = .returned (errV 1) ∧ Below w.heap.size w w' := by
  have b1 : decide ((3 : Int) < (code : Int)) = true := by simp; omega
  have b2 : ((code : Int) == 2) = false := by simp; omega
  have b3 : ((code : Int) == 3) = false := by simp; omega
  clear h3
  go_enter Tryd.func15, Tryd.ntmps15
  go_wp2_with fail
  go_ret
  exact ⟨rfl, (Below.refl _ _).alloc (Nat.le_refl _) _⟩
set_option maxRecDepth 100000 in
set_option maxHeartbeats 4000000 in
theorem dck_big_true_false (head at_ steps moved from_ to_ left next : Nat) (code : Nat) (w : World) (h3 : 3 < code) : Calls Tryd.prog 15 #[.agg #[.int .u32 (code : Nat), .int .u32 (head : Nat), .int .u32 (at_ : Nat), .int .u32 (steps : Nat), .int .u32 (moved : Nat), .bool true, .int .u32 (from_ : Nat), .int .u32 (to_ : Nat), .int .u32 (left : Nat), .int .u32 (next : Nat), .bool false]] w fun e w' => e = .returned (errV 1) ∧ Below w.heap.size w w' := by
  have b1 : decide ((3 : Int) < (code : Int)) = true := by simp; omega
  have b2 : ((code : Int) == 2) = false := by simp; omega
  have b3 : ((code : Int) == 3) = false := by simp; omega
  clear h3
  go_enter Tryd.func15, Tryd.ntmps15
  go_wp2_with fail
  go_ret
  exact ⟨rfl, (Below.refl _ _).alloc (Nat.le_refl _) _⟩
set_option maxRecDepth 100000 in
set_option maxHeartbeats 4000000 in
theorem dck_big_false_true (head at_ steps moved from_ to_ left next : Nat) (code : Nat) (w : World) (h3 : 3 < code) : Calls Tryd.prog 15 #[.agg #[.int .u32 (code : Nat), .int .u32 (head : Nat), .int .u32 (at_ : Nat), .int .u32 (steps : Nat), .int .u32 (moved : Nat), .bool false, .int .u32 (from_ : Nat), .int .u32 (to_ : Nat), .int .u32 (left : Nat), .int .u32 (next : Nat), .bool true]] w fun e w' => e = .returned (errV 1) ∧ Below w.heap.size w w' := by
  have b1 : decide ((3 : Int) < (code : Int)) = true := by simp; omega
  have b2 : ((code : Int) == 2) = false := by simp; omega
  have b3 : ((code : Int) == 3) = false := by simp; omega
  clear h3
  go_enter Tryd.func15, Tryd.ntmps15
  go_wp2_with fail
  go_ret
  exact ⟨rfl, (Below.refl _ _).alloc (Nat.le_refl _) _⟩
set_option maxRecDepth 100000 in
set_option maxHeartbeats 4000000 in
theorem dck_big_false_false (head at_ steps moved from_ to_ left next : Nat) (code : Nat) (w : World) (h3 : 3 < code) : Calls Tryd.prog 15 #[.agg #[.int .u32 (code : Nat), .int .u32 (head : Nat), .int .u32 (at_ : Nat), .int .u32 (steps : Nat), .int .u32 (moved : Nat), .bool false, .int .u32 (from_ : Nat), .int .u32 (to_ : Nat), .int .u32 (left : Nat), .int .u32 (next : Nat), .bool false]] w fun e w' => e = .returned (errV 1) ∧ Below w.heap.size w w' := by
  have b1 : decide ((3 : Int) < (code : Int)) = true := by simp; omega
  have b2 : ((code : Int) == 2) = false := by simp; omega
  have b3 : ((code : Int) == 3) = false := by simp; omega
  clear h3
  go_enter Tryd.func15, Tryd.ntmps15
  go_wp2_with fail
  go_ret
  exact ⟨rfl, (Below.refl _ _).alloc (Nat.le_refl _) _⟩
set_option maxRecDepth 100000 in
set_option maxHeartbeats 4000000 in
theorem dck_0_true_true (head at_ steps moved from_ to_ left next : Nat) (w : World)  : Calls Tryd.prog 15 #[.agg #[.int .u32 0, .int .u32 (head : Nat), .int .u32 (at_ : Nat), .int .u32 (steps : Nat), .int .u32 (moved : Nat), .bool true, .int .u32 (from_ : Nat), .int .u32 (to_ : Nat), .int .u32 (left : Nat), .int .u32 (next : Nat), .bool true]] w fun e w' => e = .returned (errV 1) ∧ Below w.heap.size w w' := by
  go_enter Tryd.func15, Tryd.ntmps15
  go_wp2_with fail
  go_ret
  exact ⟨rfl, (Below.refl _ _).alloc (Nat.le_refl _) _⟩
set_option maxRecDepth 100000 in
set_option maxHeartbeats 4000000 in
theorem dck_0_true_false (head at_ steps moved from_ to_ left next : Nat) (w : World)  : Calls Tryd.prog 15 #[.agg #[.int .u32 0, .int .u32 (head : Nat), .int .u32 (at_ : Nat), .int .u32 (steps : Nat), .int .u32 (moved : Nat), .bool true, .int .u32 (from_ : Nat), .int .u32 (to_ : Nat), .int .u32 (left : Nat), .int .u32 (next : Nat), .bool false]] w fun e w' => e = .returned (errV 1) ∧ Below w.heap.size w w' := by
  go_enter Tryd.func15, Tryd.ntmps15
  go_wp2_with fail
  go_ret
  exact ⟨rfl, (Below.refl _ _).alloc (Nat.le_refl _) _⟩
set_option maxRecDepth 100000 in
set_option maxHeartbeats 4000000 in
theorem dck_0_false_true (head at_ steps moved from_ to_ left next : Nat) (w : World)  : Calls Tryd.prog 15 #[.agg #[.int .u32 0, .int .u32 (head : Nat), .int .u32 (at_ : Nat), .int .u32 (steps : Nat), .int .u32 (moved : Nat), .bool false, .int .u32 (from_ : Nat), .int .u32 (to_ : Nat), .int .u32 (left : Nat), .int .u32 (next : Nat), .bool true]] w fun e w' => e = .returned (errV 1) ∧ Below w.heap.size w w' := by
  go_enter Tryd.func15, Tryd.ntmps15
  go_wp2_with fail
  go_ret
  exact ⟨rfl, (Below.refl _ _).alloc (Nat.le_refl _) _⟩
set_option maxRecDepth 100000 in
set_option maxHeartbeats 4000000 in
theorem dck_0_false_false_st (head at_ steps moved from_ to_ left next : Nat) (w : World) (hs : 64 < steps) : Calls Tryd.prog 15 #[.agg #[.int .u32 0, .int .u32 (head : Nat), .int .u32 (at_ : Nat), .int .u32 (steps : Nat), .int .u32 (moved : Nat), .bool false, .int .u32 (from_ : Nat), .int .u32 (to_ : Nat), .int .u32 (left : Nat), .int .u32 (next : Nat), .bool false]] w fun e w' => e = .returned (errV 1) ∧ Below w.heap.size w w' := by
  have b1 : decide ((64 : Int) < (steps : Int)) = true := by simp; omega
  clear hs
  go_enter Tryd.func15, Tryd.ntmps15
  go_wp2_with fail
  go_ret
  exact ⟨rfl, (Below.refl _ _).alloc (Nat.le_refl _) _⟩
set_option maxRecDepth 100000 in
set_option maxHeartbeats 4000000 in
theorem dck_1_true_true (head at_ steps moved from_ to_ left next : Nat) (w : World)  : Calls Tryd.prog 15 #[.agg #[.int .u32 1, .int .u32 (head : Nat), .int .u32 (at_ : Nat), .int .u32 (steps : Nat), .int .u32 (moved : Nat), .bool true, .int .u32 (from_ : Nat), .int .u32 (to_ : Nat), .int .u32 (left : Nat), .int .u32 (next : Nat), .bool true]] w fun e w' => e = .returned (errV 1) ∧ Below w.heap.size w w' := by
  go_enter Tryd.func15, Tryd.ntmps15
  go_wp2_with fail
  go_ret
  exact ⟨rfl, (Below.refl _ _).alloc (Nat.le_refl _) _⟩
set_option maxRecDepth 100000 in
set_option maxHeartbeats 4000000 in
theorem dck_1_true_false_st (head at_ steps moved from_ to_ left next : Nat) (w : World) (hs : 64 < steps) : Calls Tryd.prog 15 #[.agg #[.int .u32 1, .int .u32 (head : Nat), .int .u32 (at_ : Nat), .int .u32 (steps : Nat), .int .u32 (moved : Nat), .bool true, .int .u32 (from_ : Nat), .int .u32 (to_ : Nat), .int .u32 (left : Nat), .int .u32 (next : Nat), .bool false]] w fun e w' => e = .returned (errV 1) ∧ Below w.heap.size w w' := by
  have b1 : decide ((64 : Int) < (steps : Int)) = true := by simp; omega
  clear hs
  go_enter Tryd.func15, Tryd.ntmps15
  go_wp2_with fail
  go_ret
  exact ⟨rfl, (Below.refl _ _).alloc (Nat.le_refl _) _⟩
set_option maxRecDepth 100000 in
set_option maxHeartbeats 4000000 in
theorem dck_1_true_false_l0 (head at_ steps moved from_ to_ left next : Nat) (w : World) (hs : steps ≤ 64) (hl : left = 0) : Calls Tryd.prog 15 #[.agg #[.int .u32 1, .int .u32 (head : Nat), .int .u32 (at_ : Nat), .int .u32 (steps : Nat), .int .u32 (moved : Nat), .bool true, .int .u32 (from_ : Nat), .int .u32 (to_ : Nat), .int .u32 (left : Nat), .int .u32 (next : Nat), .bool false]] w fun e w' => e = .returned (errV 1) ∧ Below w.heap.size w w' := by
  subst hl
  have b1 : decide ((64 : Int) < (steps : Int)) = false := by simp; omega
  clear hs
  go_enter Tryd.func15, Tryd.ntmps15
  go_wp2_with fail
  go_ret
  exact ⟨rfl, (Below.refl _ _).alloc (Nat.le_refl _) _⟩
set_option maxRecDepth 100000 in
set_option maxHeartbeats 4000000 in
theorem dck_1_true_false_lb (head at_ steps moved from_ to_ left next : Nat) (w : World) (hs : steps ≤ 64) (hl : 65536 < left) : Calls Tryd.prog 15 #[.agg #[.int .u32 1, .int .u32 (head : Nat), .int .u32 (at_ : Nat), .int .u32 (steps : Nat), .int .u32 (moved : Nat), .bool true, .int .u32 (from_ : Nat), .int .u32 (to_ : Nat), .int .u32 (left : Nat), .int .u32 (next : Nat), .bool false]] w fun e w' => e = .returned (errV 1) ∧ Below w.heap.size w w' := by
  have b1 : decide ((64 : Int) < (steps : Int)) = false := by simp; omega
  have b2 : decide ((left : Int) < 1) = false := by simp; omega
  have b3 : decide ((65536 : Int) < (left : Int)) = true := by simp; omega
  clear hs hl
  go_enter Tryd.func15, Tryd.ntmps15
  go_wp2_with fail
  go_ret
  exact ⟨rfl, (Below.refl _ _).alloc (Nat.le_refl _) _⟩
set_option maxRecDepth 100000 in
set_option maxHeartbeats 4000000 in
theorem dck_1_true_false_ok (head at_ steps moved from_ to_ left next : Nat) (w : World) (hs : steps ≤ 64) (hl : 1 ≤ left) (hm : left ≤ 65536) : Calls Tryd.prog 15 #[.agg #[.int .u32 1, .int .u32 (head : Nat), .int .u32 (at_ : Nat), .int .u32 (steps : Nat), .int .u32 (moved : Nat), .bool true, .int .u32 (from_ : Nat), .int .u32 (to_ : Nat), .int .u32 (left : Nat), .int .u32 (next : Nat), .bool false]] w fun e w' => e = .returned (.nilIface) ∧ Below w.heap.size w w' := by
  have b1 : decide ((64 : Int) < (steps : Int)) = false := by simp; omega
  have b2 : decide ((left : Int) < 1) = false := by simp; omega
  have b3 : decide ((65536 : Int) < (left : Int)) = false := by simp; omega
  clear hs hl hm
  go_enter Tryd.func15, Tryd.ntmps15
  go_wp2_with fail
  go_quiet (fail)
  go_wp2_with fail
  go_ret
  exact ⟨rfl, below_drewN ((Below.refl _ _).alloc (Nat.le_refl _) _) _⟩
set_option maxRecDepth 100000 in
set_option maxHeartbeats 4000000 in
theorem dck_1_false_true (head at_ steps moved from_ to_ left next : Nat) (w : World)  : Calls Tryd.prog 15 #[.agg #[.int .u32 1, .int .u32 (head : Nat), .int .u32 (at_ : Nat), .int .u32 (steps : Nat), .int .u32 (moved : Nat), .bool false, .int .u32 (from_ : Nat), .int .u32 (to_ : Nat), .int .u32 (left : Nat), .int .u32 (next : Nat), .bool true]] w fun e w' => e = .returned (errV 1) ∧ Below w.heap.size w w' := by
  go_enter Tryd.func15, Tryd.ntmps15
  go_wp2_with fail
  go_ret
  exact ⟨rfl, (Below.refl _ _).alloc (Nat.le_refl _) _⟩
set_option maxRecDepth 100000 in
set_option maxHeartbeats 4000000 in
theorem dck_1_false_false_st (head at_ steps moved from_ to_ left next : Nat) (w : World) (hs : 64 < steps) : Calls Tryd.prog 15 #[.agg #[.int .u32 1, .int .u32 (head : Nat), .int .u32 (at_ : Nat), .int .u32 (steps : Nat), .int .u32 (moved : Nat), .bool false, .int .u32 (from_ : Nat), .int .u32 (to_ : Nat), .int .u32 (left : Nat), .int .u32 (next : Nat), .bool false]] w fun e w' => e = .returned (errV 1) ∧ Below w.heap.size w w' := by
  have b1 : decide ((64 : Int) < (steps : Int)) = true := by simp; omega
  clear hs
  go_enter Tryd.func15, Tryd.ntmps15
  go_wp2_with fail
  go_ret
  exact ⟨rfl, (Below.refl _ _).alloc (Nat.le_refl _) _⟩
set_option maxRecDepth 100000 in
set_option maxHeartbeats 4000000 in
theorem dck_2_true_true (head at_ steps moved from_ to_ left next : Nat) (w : World)  : Calls Tryd.prog 15 #[.agg #[.int .u32 2, .int .u32 (head : Nat), .int .u32 (at_ : Nat), .int .u32 (steps : Nat), .int .u32 (moved : Nat), .bool true, .int .u32 (from_ : Nat), .int .u32 (to_ : Nat), .int .u32 (left : Nat), .int .u32 (next : Nat), .bool true]] w fun e w' => e = .returned (errV 1) ∧ Below w.heap.size w w' := by
  go_enter Tryd.func15, Tryd.ntmps15
  go_wp2_with fail
  go_ret
  exact ⟨rfl, (Below.refl _ _).alloc (Nat.le_refl _) _⟩
set_option maxRecDepth 100000 in
set_option maxHeartbeats 4000000 in
theorem dck_2_true_false (head at_ steps moved from_ to_ left next : Nat) (w : World)  : Calls Tryd.prog 15 #[.agg #[.int .u32 2, .int .u32 (head : Nat), .int .u32 (at_ : Nat), .int .u32 (steps : Nat), .int .u32 (moved : Nat), .bool true, .int .u32 (from_ : Nat), .int .u32 (to_ : Nat), .int .u32 (left : Nat), .int .u32 (next : Nat), .bool false]] w fun e w' => e = .returned (errV 1) ∧ Below w.heap.size w w' := by
  go_enter Tryd.func15, Tryd.ntmps15
  go_wp2_with fail
  go_ret
  exact ⟨rfl, (Below.refl _ _).alloc (Nat.le_refl _) _⟩
set_option maxRecDepth 100000 in
set_option maxHeartbeats 4000000 in
theorem dck_2_false_true_st (head at_ steps moved from_ to_ left next : Nat) (w : World) (hs : 64 < steps) : Calls Tryd.prog 15 #[.agg #[.int .u32 2, .int .u32 (head : Nat), .int .u32 (at_ : Nat), .int .u32 (steps : Nat), .int .u32 (moved : Nat), .bool false, .int .u32 (from_ : Nat), .int .u32 (to_ : Nat), .int .u32 (left : Nat), .int .u32 (next : Nat), .bool true]] w fun e w' => e = .returned (errV 1) ∧ Below w.heap.size w w' := by
  have b1 : decide ((64 : Int) < (steps : Int)) = true := by simp; omega
  clear hs
  go_enter Tryd.func15, Tryd.ntmps15
  go_wp2_with fail
  go_ret
  exact ⟨rfl, (Below.refl _ _).alloc (Nat.le_refl _) _⟩
set_option maxRecDepth 100000 in
set_option maxHeartbeats 4000000 in
theorem dck_2_false_false_st (head at_ steps moved from_ to_ left next : Nat) (w : World) (hs : 64 < steps) : Calls Tryd.prog 15 #[.agg #[.int .u32 2, .int .u32 (head : Nat), .int .u32 (at_ : Nat), .int .u32 (steps : Nat), .int .u32 (moved : Nat), .bool false, .int .u32 (from_ : Nat), .int .u32 (to_ : Nat), .int .u32 (left : Nat), .int .u32 (next : Nat), .bool false]] w fun e w' => e = .returned (errV 1) ∧ Below w.heap.size w w' := by
  have b1 : decide ((64 : Int) < (steps : Int)) = true := by simp; omega
  clear hs
  go_enter Tryd.func15, Tryd.ntmps15
  go_wp2_with fail
  go_ret
  exact ⟨rfl, (Below.refl _ _).alloc (Nat.le_refl _) _⟩
set_option maxRecDepth 100000 in
set_option maxHeartbeats 4000000 in
theorem dck_3_true_true (head at_ steps moved from_ to_ left next : Nat) (w : World)  : Calls Tryd.prog 15 #[.agg #[.int .u32 3, .int .u32 (head : Nat), .int .u32 (at_ : Nat), .int .u32 (steps : Nat), .int .u32 (moved : Nat), .bool true, .int .u32 (from_ : Nat), .int .u32 (to_ : Nat), .int .u32 (left : Nat), .int .u32 (next : Nat), .bool true]] w fun e w' => e = .returned (errV 1) ∧ Below w.heap.size w w' := by
  go_enter Tryd.func15, Tryd.ntmps15
  go_wp2_with fail
  go_ret
  exact ⟨rfl, (Below.refl _ _).alloc (Nat.le_refl _) _⟩
set_option maxRecDepth 100000 in
set_option maxHeartbeats 4000000 in
theorem dck_3_true_false (head at_ steps moved from_ to_ left next : Nat) (w : World)  : Calls Tryd.prog 15 #[.agg #[.int .u32 3, .int .u32 (head : Nat), .int .u32 (at_ : Nat), .int .u32 (steps : Nat), .int .u32 (moved : Nat), .bool true, .int .u32 (from_ : Nat), .int .u32 (to_ : Nat), .int .u32 (left : Nat), .int .u32 (next : Nat), .bool false]] w fun e w' => e = .returned (errV 1) ∧ Below w.heap.size w w' := by
  go_enter Tryd.func15, Tryd.ntmps15
  go_wp2_with fail
  go_ret
  exact ⟨rfl, (Below.refl _ _).alloc (Nat.le_refl _) _⟩
set_option maxRecDepth 100000 in
set_option maxHeartbeats 4000000 in
theorem dck_3_false_true_st (head at_ steps moved from_ to_ left next : Nat) (w : World) (hs : 64 < steps) : Calls Tryd.prog 15 #[.agg #[.int .u32 3, .int .u32 (head : Nat), .int .u32 (at_ : Nat), .int .u32 (steps : Nat), .int .u32 (moved : Nat), .bool false, .int .u32 (from_ : Nat), .int .u32 (to_ : Nat), .int .u32 (left : Nat), .int .u32 (next : Nat), .bool true]] w fun e w' => e = .returned (errV 1) ∧ Below w.heap.size w w' := by
  have b1 : decide ((64 : Int) < (steps : Int)) = true := by simp; omega
  clear hs
  go_enter Tryd.func15, Tryd.ntmps15
  go_wp2_with fail
  go_ret
  exact ⟨rfl, (Below.refl _ _).alloc (Nat.le_refl _) _⟩
set_option maxRecDepth 100000 in
set_option maxHeartbeats 4000000 in
theorem dck_3_false_false_st (head at_ steps moved from_ to_ left next : Nat) (w : World) (hs : 64 < steps) : Calls Tryd.prog 15 #[.agg #[.int .u32 3, .int .u32 (head : Nat), .int .u32 (at_ : Nat), .int .u32 (steps : Nat), .int .u32 (moved : Nat), .bool false, .int .u32 (from_ : Nat), .int .u32 (to_ : Nat), .int .u32 (left : Nat), .int .u32 (next : Nat), .bool false]] w fun e w' => e = .returned (errV 1) ∧ Below w.heap.size w w' := by
  have b1 : decide ((64 : Int) < (steps : Int)) = true := by simp; omega
  clear hs
  go_enter Tryd.func15, Tryd.ntmps15
  go_wp2_with fail
  go_ret
  exact ⟨rfl, (Below.refl _ _).alloc (Nat.le_refl _) _⟩

end Go.Proofs.YtcakcfeipfjmpaaDoor
