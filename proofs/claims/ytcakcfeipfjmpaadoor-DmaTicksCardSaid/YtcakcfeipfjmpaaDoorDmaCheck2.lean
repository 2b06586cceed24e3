/-
Check of package dma, walked: a state that has no order.
No condition.
-/
import Derived.Test.YtcakcfeipfjmpaaDoorDmaCheck
import Derived.Test.YtcakcfeipfjmpaaDoorDmaEq
namespace Go.Proofs.YtcakcfeipfjmpaaDoor
open Go.RowKit

set_option maxRecDepth 100000 in
set_option maxHeartbeats 4000000 in
theorem dck_0_false_false_true (head at_ steps moved from_ to_ left next : Nat) (w : World) (hs : steps ≤ 64) (hz : ¬ (from_ = 0 ∧ to_ = 0 ∧ left = 0 ∧ next = 0)) : Calls Tryd.prog 15 #[.agg #[.int .u32 0, .int .u32 (head : Nat), .int .u32 (at_ : Nat), .int .u32 (steps : Nat), .int .u32 (moved : Nat), .bool false, .int .u32 (from_ : Nat), .int .u32 (to_ : Nat), .int .u32 (left : Nat), .int .u32 (next : Nat), .bool false]] w fun e w' => e = .returned (errV 1) ∧ Below w.heap.size w w' := by
  have HW := Lib.hid (fun W => dma_without ⟨0, head, at_, steps, moved, false, from_, to_, left, next, false⟩ W)
  have hne : ∀ W, (binOp BinOp.neq 33 (.agg #[.int .u32 0, .int .u32 (head : Nat), .int .u32 (at_ : Nat), .int .u32 (steps : Nat), .int .u32 (moved : Nat), .bool false, .int .u32 (from_ : Nat), .int .u32 (to_ : Nat), .int .u32 (left : Nat), .int .u32 (next : Nat), .bool false]) (.agg #[.int .u32 0, .int .u32 (head : Nat), .int .u32 (at_ : Nat), .int .u32 (steps : Nat), .int .u32 (moved : Nat), .bool false, .int .u32 0, .int .u32 0, .int .u32 0, .int .u32 0, .bool false])).run Tryd.prog W = .ok (.bool true) W := fun W => by
    have h := dst_neq ⟨0, head, at_, steps, moved, false, from_, to_, left, next, false⟩ ⟨0, head, at_, steps, moved, false, 0, 0, 0, 0, false⟩ W
    rw [show (!decide ((⟨0, head, at_, steps, moved, false, from_, to_, left, next, false⟩ : Dst) = ⟨0, head, at_, steps, moved, false, 0, 0, 0, 0, false⟩)) = true from by rw [decide_eq_false (by intro e; simp only [Dst.mk.injEq, true_and, and_true] at e; exact hz ⟨by omega, by omega, by omega, by omega⟩)]; rfl] at h
    exact h
  simp only [Dst.c, Dst.without] at HW
  have b1 : decide ((64 : Int) < (steps : Int)) = false := by simp; omega
  clear hs hz
  have k0 := heap_alloc_new w (.cells #[.int .u32 0, .int .u32 (head : Nat), .int .u32 (at_ : Nat), .int .u32 (steps : Nat), .int .u32 (moved : Nat), .bool false, .int .u32 (from_ : Nat), .int .u32 (to_ : Nat), .int .u32 (left : Nat), .int .u32 (next : Nat), .bool false] 33)
  have hb0 := (Below.refl w.heap.size w).alloc (Nat.le_refl _) (.cells #[.int .u32 0, .int .u32 (head : Nat), .int .u32 (at_ : Nat), .int .u32 (steps : Nat), .int .u32 (moved : Nat), .bool false, .int .u32 (from_ : Nat), .int .u32 (to_ : Nat), .int .u32 (left : Nat), .int .u32 (next : Nat), .bool false] 33)
  have K0 := Lib.hid k0
  have HB0 := Lib.hid hb0
  clear k0 hb0
  go_enter Tryd.func15, Tryd.ntmps15
  go_upto_region 6 with fail
  refine wp_region_held_drew (S := fun W => KX (fun _ => False) (w.alloc (.cells #[.int .u32 0, .int .u32 (head : Nat), .int .u32 (at_ : Nat), .int .u32 (steps : Nat), .int .u32 (moved : Nat), .bool false, .int .u32 (from_ : Nat), .int .u32 (to_ : Nat), .int .u32 (left : Nat), .int .u32 (next : Nat), .bool false] 33)) W) (by kernel_rfl) ((KX.refl (fun _ => False) _).drew) (fun hHeld => ?_)
  refine wpAnyH_take (i := 0) (v := ?v0) rfl (by kernel_rfl) (by kernel_rfl) (by kernel_rfl) (fun _ _ _ h => h) (Or.inl ⟨by rfl, ?hy0⟩) (by assumption) ?rest0
  case hy0 => (intro W hSw; go_simp; first | done | with_reducible rfl)
  simp only [Act.put, List.getElem_toArray, List.getElem_cons_zero, List.setIfInBounds_toArray, List.set_cons_zero, List.set_cons_succ]
  refine wpAnyH_take (i := 1) (v := ?v1) rfl (by kernel_rfl) (by kernel_rfl) (by kernel_rfl) (fun _ _ _ h => h) (Or.inl ⟨by rfl, ?hy1⟩) (by assumption) ?rest1
  case hy1 => (intro W hSw; have cj := (cell_of_row _ _ 5 _ _ _ (hSw.heap K0.out id)).trans (rfl : _ = some (.bool false : Value)); go_simp; first | done | with_reducible rfl)
  simp only [Act.put, List.getElem_toArray, List.getElem_cons_zero, List.getElem_cons_succ, List.setIfInBounds_toArray, List.set_cons_zero, List.set_cons_succ]
  refine wpAnyH_take (i := 2) (v := ?v2) rfl (by kernel_rfl) (by kernel_rfl) (by kernel_rfl) (fun _ _ _ h => h) (Or.inl ⟨by rfl, ?hy2⟩) (by assumption) ?rest2
  case hy2 => (intro W hSw; go_simp; first | done | with_reducible rfl)
  simp only [Act.put, List.getElem_toArray, List.getElem_cons_zero, List.getElem_cons_succ, List.setIfInBounds_toArray, List.set_cons_zero, List.set_cons_succ]
  refine wpAnyH_take (i := 3) (v := ?v3) rfl (by kernel_rfl) (by kernel_rfl) (by kernel_rfl) (fun _ _ _ h => h) (Or.inl ⟨by rfl, ?hy3⟩) (by assumption) ?rest3
  case hy3 => (intro W hSw; go_simp; first | done | with_reducible rfl)
  simp only [Act.put, List.getElem_toArray, List.getElem_cons_zero, List.getElem_cons_succ, List.setIfInBounds_toArray, List.set_cons_zero, List.set_cons_succ]
  refine wpAnyH_take (i := 4) rfl (by kernel_rfl) (by kernel_rfl) (by kernel_rfl) (fun _ _ _ h => h) (yieldsIf_load_mid (by rfl) 33 _ rfl (w.heap.size) 0 rfl #[.int .u32 0, .int .u32 (head : Nat), .int .u32 (at_ : Nat), .int .u32 (steps : Nat), .int .u32 (moved : Nat), .bool false, .int .u32 (from_ : Nat), .int .u32 (to_ : Nat), .int .u32 (left : Nat), .int .u32 (next : Nat), .bool false].toList _ (fun W hSw => range_of_all (hSw.heap K0.out id)) Tryd.underlying33 rfl ?hi4) (by assumption) ?rest4
  case hi4 => kernel_rfl
  simp only [Act.put, List.getElem_toArray, List.getElem_cons_zero, List.getElem_cons_succ, List.setIfInBounds_toArray, List.set_cons_zero, List.set_cons_succ]
  refine wpAnyH_take (i := 5) rfl (by kernel_rfl) (by kernel_rfl) (by kernel_rfl) (fun _ _ _ h => h) (yieldsIf_load_mid (by rfl) 33 _ rfl (w.heap.size) 0 rfl #[.int .u32 0, .int .u32 (head : Nat), .int .u32 (at_ : Nat), .int .u32 (steps : Nat), .int .u32 (moved : Nat), .bool false, .int .u32 (from_ : Nat), .int .u32 (to_ : Nat), .int .u32 (left : Nat), .int .u32 (next : Nat), .bool false].toList _ (fun W hSw => range_of_all (hSw.heap K0.out id)) Tryd.underlying33 rfl ?hi5) (by assumption) ?rest5
  case hi5 => kernel_rfl
  simp only [Act.put, List.getElem_toArray, List.getElem_cons_zero, List.getElem_cons_succ, List.setIfInBounds_toArray, List.set_cons_zero, List.set_cons_succ]
  refine wpAnyH_ready (rs := [6]) (by kernel_rfl) (by simp) ?_
  refine AllReadyH.cons (o := _) rfl (fun K hK => ?_) (AllReadyH.nil)
  simp only [List.getElem_toArray, List.getElem_cons_zero, List.getElem_cons_succ]
  go_simp
  refine (HW.out _).mono ?_
  rintro e w1 ⟨rfl, hb⟩
  refine hK.out _ _ (hHeld.trans (KX.of_below (X := (fun _ => False)) hb) (fun _ _ h => h)) (fun hHeld2 => ?_)
  clear hK K
  have K3 := Lib.hid (keepB (a := (w.alloc (.cells #[.int .u32 0, .int .u32 (head : Nat), .int .u32 (at_ : Nat), .int .u32 (steps : Nat), .int .u32 (moved : Nat), .bool false, .int .u32 (from_ : Nat), .int .u32 (to_ : Nat), .int .u32 (left : Nat), .int .u32 (next : Nat), .bool false] 33)).drew) K0.out hb)
  have HB4 := Lib.hid ((HB0.out.drew).trans (hb.mono (HB0.out.drew).size))
  clear HB0
  clear hb
  refine wpAnyH_take (i := 7) (v := ?v7) rfl (by kernel_rfl) (by kernel_rfl) (by kernel_rfl) (fun _ _ _ h => h) (Or.inl ⟨by rfl, ?hy7⟩) (by assumption) ?rest7
  case hy7 => (intro W hSw; go_simp; first | done | with_reducible rfl)
  simp only [Act.put, List.getElem_toArray, List.getElem_cons_zero, List.getElem_cons_succ, List.setIfInBounds_toArray, List.set_cons_zero, List.set_cons_succ]
  refine wpAnyH_take (i := 8) (v := ?v8) rfl (by kernel_rfl) (by kernel_rfl) (by kernel_rfl) (fun _ _ _ h => h) (Or.inl ⟨by rfl, ?hy8⟩) (by assumption) ?rest8
  case hy8 => (intro W hSw; go_simp; first | done | with_reducible rfl)
  simp only [Act.put, List.getElem_toArray, List.getElem_cons_zero, List.getElem_cons_succ, List.setIfInBounds_toArray, List.set_cons_zero, List.set_cons_succ]
  refine wpAnyH_take (i := 9) (v := ?v9) rfl (by kernel_rfl) (by kernel_rfl) (by kernel_rfl) (fun _ _ _ h => h) (Or.inl ⟨by rfl, ?hy9⟩) (by assumption) ?rest9
  case hy9 => (intro W hSw; go_simp; first | done | with_reducible rfl)
  simp only [Act.put, List.getElem_toArray, List.getElem_cons_zero, List.getElem_cons_succ, List.setIfInBounds_toArray, List.set_cons_zero, List.set_cons_succ]
  refine wpAnyH_done (by kernel_rfl) ?_ _
  clear hHeld2
  go_wp2_with fail
  go_ret
  exact ⟨rfl, HB4.out⟩
set_option maxRecDepth 100000 in
set_option maxHeartbeats 4000000 in
theorem dck_0_false_false_false (head at_ steps moved from_ to_ left next : Nat) (w : World) (hs : steps ≤ 64) (hz : (from_ = 0 ∧ to_ = 0 ∧ left = 0 ∧ next = 0)) : Calls Tryd.prog 15 #[.agg #[.int .u32 0, .int .u32 (head : Nat), .int .u32 (at_ : Nat), .int .u32 (steps : Nat), .int .u32 (moved : Nat), .bool false, .int .u32 (from_ : Nat), .int .u32 (to_ : Nat), .int .u32 (left : Nat), .int .u32 (next : Nat), .bool false]] w fun e w' => e = .returned (.nilIface) ∧ Below w.heap.size w w' := by
  have HW := Lib.hid (fun W => dma_without ⟨0, head, at_, steps, moved, false, from_, to_, left, next, false⟩ W)
  have hne : ∀ W, (binOp BinOp.neq 33 (.agg #[.int .u32 0, .int .u32 (head : Nat), .int .u32 (at_ : Nat), .int .u32 (steps : Nat), .int .u32 (moved : Nat), .bool false, .int .u32 (from_ : Nat), .int .u32 (to_ : Nat), .int .u32 (left : Nat), .int .u32 (next : Nat), .bool false]) (.agg #[.int .u32 0, .int .u32 (head : Nat), .int .u32 (at_ : Nat), .int .u32 (steps : Nat), .int .u32 (moved : Nat), .bool false, .int .u32 0, .int .u32 0, .int .u32 0, .int .u32 0, .bool false])).run Tryd.prog W = .ok (.bool false) W := fun W => by
    have h := dst_neq ⟨0, head, at_, steps, moved, false, from_, to_, left, next, false⟩ ⟨0, head, at_, steps, moved, false, 0, 0, 0, 0, false⟩ W
    rw [show (!decide ((⟨0, head, at_, steps, moved, false, from_, to_, left, next, false⟩ : Dst) = ⟨0, head, at_, steps, moved, false, 0, 0, 0, 0, false⟩)) = false from by rw [decide_eq_true (by obtain ⟨rfl, rfl, rfl, rfl⟩ := hz; rfl)]; rfl] at h
    exact h
  simp only [Dst.c, Dst.without] at HW
  have b1 : decide ((64 : Int) < (steps : Int)) = false := by simp; omega
  clear hs hz
  have k0 := heap_alloc_new w (.cells #[.int .u32 0, .int .u32 (head : Nat), .int .u32 (at_ : Nat), .int .u32 (steps : Nat), .int .u32 (moved : Nat), .bool false, .int .u32 (from_ : Nat), .int .u32 (to_ : Nat), .int .u32 (left : Nat), .int .u32 (next : Nat), .bool false] 33)
  have hb0 := (Below.refl w.heap.size w).alloc (Nat.le_refl _) (.cells #[.int .u32 0, .int .u32 (head : Nat), .int .u32 (at_ : Nat), .int .u32 (steps : Nat), .int .u32 (moved : Nat), .bool false, .int .u32 (from_ : Nat), .int .u32 (to_ : Nat), .int .u32 (left : Nat), .int .u32 (next : Nat), .bool false] 33)
  have K0 := Lib.hid k0
  have HB0 := Lib.hid hb0
  clear k0 hb0
  go_enter Tryd.func15, Tryd.ntmps15
  go_upto_region 6 with fail
  refine wp_region_held_drew (S := fun W => KX (fun _ => False) (w.alloc (.cells #[.int .u32 0, .int .u32 (head : Nat), .int .u32 (at_ : Nat), .int .u32 (steps : Nat), .int .u32 (moved : Nat), .bool false, .int .u32 (from_ : Nat), .int .u32 (to_ : Nat), .int .u32 (left : Nat), .int .u32 (next : Nat), .bool false] 33)) W) (by kernel_rfl) ((KX.refl (fun _ => False) _).drew) (fun hHeld => ?_)
  refine wpAnyH_take (i := 0) (v := ?v0) rfl (by kernel_rfl) (by kernel_rfl) (by kernel_rfl) (fun _ _ _ h => h) (Or.inl ⟨by rfl, ?hy0⟩) (by assumption) ?rest0
  case hy0 => (intro W hSw; go_simp; first | done | with_reducible rfl)
  simp only [Act.put, List.getElem_toArray, List.getElem_cons_zero, List.setIfInBounds_toArray, List.set_cons_zero, List.set_cons_succ]
  refine wpAnyH_take (i := 1) (v := ?v1) rfl (by kernel_rfl) (by kernel_rfl) (by kernel_rfl) (fun _ _ _ h => h) (Or.inl ⟨by rfl, ?hy1⟩) (by assumption) ?rest1
  case hy1 => (intro W hSw; have cj := (cell_of_row _ _ 5 _ _ _ (hSw.heap K0.out id)).trans (rfl : _ = some (.bool false : Value)); go_simp; first | done | with_reducible rfl)
  simp only [Act.put, List.getElem_toArray, List.getElem_cons_zero, List.getElem_cons_succ, List.setIfInBounds_toArray, List.set_cons_zero, List.set_cons_succ]
  refine wpAnyH_take (i := 2) (v := ?v2) rfl (by kernel_rfl) (by kernel_rfl) (by kernel_rfl) (fun _ _ _ h => h) (Or.inl ⟨by rfl, ?hy2⟩) (by assumption) ?rest2
  case hy2 => (intro W hSw; go_simp; first | done | with_reducible rfl)
  simp only [Act.put, List.getElem_toArray, List.getElem_cons_zero, List.getElem_cons_succ, List.setIfInBounds_toArray, List.set_cons_zero, List.set_cons_succ]
  refine wpAnyH_take (i := 3) (v := ?v3) rfl (by kernel_rfl) (by kernel_rfl) (by kernel_rfl) (fun _ _ _ h => h) (Or.inl ⟨by rfl, ?hy3⟩) (by assumption) ?rest3
  case hy3 => (intro W hSw; go_simp; first | done | with_reducible rfl)
  simp only [Act.put, List.getElem_toArray, List.getElem_cons_zero, List.getElem_cons_succ, List.setIfInBounds_toArray, List.set_cons_zero, List.set_cons_succ]
  refine wpAnyH_take (i := 4) rfl (by kernel_rfl) (by kernel_rfl) (by kernel_rfl) (fun _ _ _ h => h) (yieldsIf_load_mid (by rfl) 33 _ rfl (w.heap.size) 0 rfl #[.int .u32 0, .int .u32 (head : Nat), .int .u32 (at_ : Nat), .int .u32 (steps : Nat), .int .u32 (moved : Nat), .bool false, .int .u32 (from_ : Nat), .int .u32 (to_ : Nat), .int .u32 (left : Nat), .int .u32 (next : Nat), .bool false].toList _ (fun W hSw => range_of_all (hSw.heap K0.out id)) Tryd.underlying33 rfl ?hi4) (by assumption) ?rest4
  case hi4 => kernel_rfl
  simp only [Act.put, List.getElem_toArray, List.getElem_cons_zero, List.getElem_cons_succ, List.setIfInBounds_toArray, List.set_cons_zero, List.set_cons_succ]
  refine wpAnyH_take (i := 5) rfl (by kernel_rfl) (by kernel_rfl) (by kernel_rfl) (fun _ _ _ h => h) (yieldsIf_load_mid (by rfl) 33 _ rfl (w.heap.size) 0 rfl #[.int .u32 0, .int .u32 (head : Nat), .int .u32 (at_ : Nat), .int .u32 (steps : Nat), .int .u32 (moved : Nat), .bool false, .int .u32 (from_ : Nat), .int .u32 (to_ : Nat), .int .u32 (left : Nat), .int .u32 (next : Nat), .bool false].toList _ (fun W hSw => range_of_all (hSw.heap K0.out id)) Tryd.underlying33 rfl ?hi5) (by assumption) ?rest5
  case hi5 => kernel_rfl
  simp only [Act.put, List.getElem_toArray, List.getElem_cons_zero, List.getElem_cons_succ, List.setIfInBounds_toArray, List.set_cons_zero, List.set_cons_succ]
  refine wpAnyH_ready (rs := [6]) (by kernel_rfl) (by simp) ?_
  refine AllReadyH.cons (o := _) rfl (fun K hK => ?_) (AllReadyH.nil)
  simp only [List.getElem_toArray, List.getElem_cons_zero, List.getElem_cons_succ]
  go_simp
  refine (HW.out _).mono ?_
  rintro e w1 ⟨rfl, hb⟩
  refine hK.out _ _ (hHeld.trans (KX.of_below (X := (fun _ => False)) hb) (fun _ _ h => h)) (fun hHeld2 => ?_)
  clear hK K
  have K3 := Lib.hid (keepB (a := (w.alloc (.cells #[.int .u32 0, .int .u32 (head : Nat), .int .u32 (at_ : Nat), .int .u32 (steps : Nat), .int .u32 (moved : Nat), .bool false, .int .u32 (from_ : Nat), .int .u32 (to_ : Nat), .int .u32 (left : Nat), .int .u32 (next : Nat), .bool false] 33)).drew) K0.out hb)
  have HB4 := Lib.hid ((HB0.out.drew).trans (hb.mono (HB0.out.drew).size))
  clear HB0
  clear hb
  refine wpAnyH_take (i := 7) (v := ?v7) rfl (by kernel_rfl) (by kernel_rfl) (by kernel_rfl) (fun _ _ _ h => h) (Or.inl ⟨by rfl, ?hy7⟩) (by assumption) ?rest7
  case hy7 => (intro W hSw; go_simp; first | done | with_reducible rfl)
  simp only [Act.put, List.getElem_toArray, List.getElem_cons_zero, List.getElem_cons_succ, List.setIfInBounds_toArray, List.set_cons_zero, List.set_cons_succ]
  refine wpAnyH_take (i := 8) (v := ?v8) rfl (by kernel_rfl) (by kernel_rfl) (by kernel_rfl) (fun _ _ _ h => h) (Or.inl ⟨by rfl, ?hy8⟩) (by assumption) ?rest8
  case hy8 => (intro W hSw; go_simp; first | done | with_reducible rfl)
  simp only [Act.put, List.getElem_toArray, List.getElem_cons_zero, List.getElem_cons_succ, List.setIfInBounds_toArray, List.set_cons_zero, List.set_cons_succ]
  refine wpAnyH_take (i := 9) (v := ?v9) rfl (by kernel_rfl) (by kernel_rfl) (by kernel_rfl) (fun _ _ _ h => h) (Or.inl ⟨by rfl, ?hy9⟩) (by assumption) ?rest9
  case hy9 => (intro W hSw; go_simp; first | done | with_reducible rfl)
  simp only [Act.put, List.getElem_toArray, List.getElem_cons_zero, List.getElem_cons_succ, List.setIfInBounds_toArray, List.set_cons_zero, List.set_cons_succ]
  refine wpAnyH_done (by kernel_rfl) ?_ _
  clear hHeld2
  go_wp2_with fail
  go_ret
  exact ⟨rfl, HB4.out⟩
set_option maxRecDepth 100000 in
set_option maxHeartbeats 4000000 in
theorem dck_1_false_false_true (head at_ steps moved from_ to_ left next : Nat) (w : World) (hs : steps ≤ 64) (hz : ¬ (from_ = 0 ∧ to_ = 0 ∧ left = 0 ∧ next = 0)) : Calls Tryd.prog 15 #[.agg #[.int .u32 1, .int .u32 (head : Nat), .int .u32 (at_ : Nat), .int .u32 (steps : Nat), .int .u32 (moved : Nat), .bool false, .int .u32 (from_ : Nat), .int .u32 (to_ : Nat), .int .u32 (left : Nat), .int .u32 (next : Nat), .bool false]] w fun e w' => e = .returned (errV 1) ∧ Below w.heap.size w w' := by
  have HW := Lib.hid (fun W => dma_without ⟨1, head, at_, steps, moved, false, from_, to_, left, next, false⟩ W)
  have hne : ∀ W, (binOp BinOp.neq 33 (.agg #[.int .u32 1, .int .u32 (head : Nat), .int .u32 (at_ : Nat), .int .u32 (steps : Nat), .int .u32 (moved : Nat), .bool false, .int .u32 (from_ : Nat), .int .u32 (to_ : Nat), .int .u32 (left : Nat), .int .u32 (next : Nat), .bool false]) (.agg #[.int .u32 1, .int .u32 (head : Nat), .int .u32 (at_ : Nat), .int .u32 (steps : Nat), .int .u32 (moved : Nat), .bool false, .int .u32 0, .int .u32 0, .int .u32 0, .int .u32 0, .bool false])).run Tryd.prog W = .ok (.bool true) W := fun W => by
    have h := dst_neq ⟨1, head, at_, steps, moved, false, from_, to_, left, next, false⟩ ⟨1, head, at_, steps, moved, false, 0, 0, 0, 0, false⟩ W
    rw [show (!decide ((⟨1, head, at_, steps, moved, false, from_, to_, left, next, false⟩ : Dst) = ⟨1, head, at_, steps, moved, false, 0, 0, 0, 0, false⟩)) = true from by rw [decide_eq_false (by intro e; simp only [Dst.mk.injEq, true_and, and_true] at e; exact hz ⟨by omega, by omega, by omega, by omega⟩)]; rfl] at h
    exact h
  simp only [Dst.c, Dst.without] at HW
  have b1 : decide ((64 : Int) < (steps : Int)) = false := by simp; omega
  clear hs hz
  have k0 := heap_alloc_new w (.cells #[.int .u32 1, .int .u32 (head : Nat), .int .u32 (at_ : Nat), .int .u32 (steps : Nat), .int .u32 (moved : Nat), .bool false, .int .u32 (from_ : Nat), .int .u32 (to_ : Nat), .int .u32 (left : Nat), .int .u32 (next : Nat), .bool false] 33)
  have hb0 := (Below.refl w.heap.size w).alloc (Nat.le_refl _) (.cells #[.int .u32 1, .int .u32 (head : Nat), .int .u32 (at_ : Nat), .int .u32 (steps : Nat), .int .u32 (moved : Nat), .bool false, .int .u32 (from_ : Nat), .int .u32 (to_ : Nat), .int .u32 (left : Nat), .int .u32 (next : Nat), .bool false] 33)
  have K0 := Lib.hid k0
  have HB0 := Lib.hid hb0
  clear k0 hb0
  go_enter Tryd.func15, Tryd.ntmps15
  go_upto_region 6 with fail
  refine wp_region_held_drew (S := fun W => KX (fun _ => False) (w.alloc (.cells #[.int .u32 1, .int .u32 (head : Nat), .int .u32 (at_ : Nat), .int .u32 (steps : Nat), .int .u32 (moved : Nat), .bool false, .int .u32 (from_ : Nat), .int .u32 (to_ : Nat), .int .u32 (left : Nat), .int .u32 (next : Nat), .bool false] 33)) W) (by kernel_rfl) ((KX.refl (fun _ => False) _).drew) (fun hHeld => ?_)
  refine wpAnyH_take (i := 0) (v := ?v0) rfl (by kernel_rfl) (by kernel_rfl) (by kernel_rfl) (fun _ _ _ h => h) (Or.inl ⟨by rfl, ?hy0⟩) (by assumption) ?rest0
  case hy0 => (intro W hSw; go_simp; first | done | with_reducible rfl)
  simp only [Act.put, List.getElem_toArray, List.getElem_cons_zero, List.setIfInBounds_toArray, List.set_cons_zero, List.set_cons_succ]
  refine wpAnyH_take (i := 1) (v := ?v1) rfl (by kernel_rfl) (by kernel_rfl) (by kernel_rfl) (fun _ _ _ h => h) (Or.inl ⟨by rfl, ?hy1⟩) (by assumption) ?rest1
  case hy1 => (intro W hSw; have cj := (cell_of_row _ _ 5 _ _ _ (hSw.heap K0.out id)).trans (rfl : _ = some (.bool false : Value)); go_simp; first | done | with_reducible rfl)
  simp only [Act.put, List.getElem_toArray, List.getElem_cons_zero, List.getElem_cons_succ, List.setIfInBounds_toArray, List.set_cons_zero, List.set_cons_succ]
  refine wpAnyH_take (i := 2) (v := ?v2) rfl (by kernel_rfl) (by kernel_rfl) (by kernel_rfl) (fun _ _ _ h => h) (Or.inl ⟨by rfl, ?hy2⟩) (by assumption) ?rest2
  case hy2 => (intro W hSw; go_simp; first | done | with_reducible rfl)
  simp only [Act.put, List.getElem_toArray, List.getElem_cons_zero, List.getElem_cons_succ, List.setIfInBounds_toArray, List.set_cons_zero, List.set_cons_succ]
  refine wpAnyH_take (i := 3) (v := ?v3) rfl (by kernel_rfl) (by kernel_rfl) (by kernel_rfl) (fun _ _ _ h => h) (Or.inl ⟨by rfl, ?hy3⟩) (by assumption) ?rest3
  case hy3 => (intro W hSw; go_simp; first | done | with_reducible rfl)
  simp only [Act.put, List.getElem_toArray, List.getElem_cons_zero, List.getElem_cons_succ, List.setIfInBounds_toArray, List.set_cons_zero, List.set_cons_succ]
  refine wpAnyH_take (i := 4) rfl (by kernel_rfl) (by kernel_rfl) (by kernel_rfl) (fun _ _ _ h => h) (yieldsIf_load_mid (by rfl) 33 _ rfl (w.heap.size) 0 rfl #[.int .u32 1, .int .u32 (head : Nat), .int .u32 (at_ : Nat), .int .u32 (steps : Nat), .int .u32 (moved : Nat), .bool false, .int .u32 (from_ : Nat), .int .u32 (to_ : Nat), .int .u32 (left : Nat), .int .u32 (next : Nat), .bool false].toList _ (fun W hSw => range_of_all (hSw.heap K0.out id)) Tryd.underlying33 rfl ?hi4) (by assumption) ?rest4
  case hi4 => kernel_rfl
  simp only [Act.put, List.getElem_toArray, List.getElem_cons_zero, List.getElem_cons_succ, List.setIfInBounds_toArray, List.set_cons_zero, List.set_cons_succ]
  refine wpAnyH_take (i := 5) rfl (by kernel_rfl) (by kernel_rfl) (by kernel_rfl) (fun _ _ _ h => h) (yieldsIf_load_mid (by rfl) 33 _ rfl (w.heap.size) 0 rfl #[.int .u32 1, .int .u32 (head : Nat), .int .u32 (at_ : Nat), .int .u32 (steps : Nat), .int .u32 (moved : Nat), .bool false, .int .u32 (from_ : Nat), .int .u32 (to_ : Nat), .int .u32 (left : Nat), .int .u32 (next : Nat), .bool false].toList _ (fun W hSw => range_of_all (hSw.heap K0.out id)) Tryd.underlying33 rfl ?hi5) (by assumption) ?rest5
  case hi5 => kernel_rfl
  simp only [Act.put, List.getElem_toArray, List.getElem_cons_zero, List.getElem_cons_succ, List.setIfInBounds_toArray, List.set_cons_zero, List.set_cons_succ]
  refine wpAnyH_ready (rs := [6]) (by kernel_rfl) (by simp) ?_
  refine AllReadyH.cons (o := _) rfl (fun K hK => ?_) (AllReadyH.nil)
  simp only [List.getElem_toArray, List.getElem_cons_zero, List.getElem_cons_succ]
  go_simp
  refine (HW.out _).mono ?_
  rintro e w1 ⟨rfl, hb⟩
  refine hK.out _ _ (hHeld.trans (KX.of_below (X := (fun _ => False)) hb) (fun _ _ h => h)) (fun hHeld2 => ?_)
  clear hK K
  have K3 := Lib.hid (keepB (a := (w.alloc (.cells #[.int .u32 1, .int .u32 (head : Nat), .int .u32 (at_ : Nat), .int .u32 (steps : Nat), .int .u32 (moved : Nat), .bool false, .int .u32 (from_ : Nat), .int .u32 (to_ : Nat), .int .u32 (left : Nat), .int .u32 (next : Nat), .bool false] 33)).drew) K0.out hb)
  have HB4 := Lib.hid ((HB0.out.drew).trans (hb.mono (HB0.out.drew).size))
  clear HB0
  clear hb
  refine wpAnyH_take (i := 7) (v := ?v7) rfl (by kernel_rfl) (by kernel_rfl) (by kernel_rfl) (fun _ _ _ h => h) (Or.inl ⟨by rfl, ?hy7⟩) (by assumption) ?rest7
  case hy7 => (intro W hSw; go_simp; first | done | with_reducible rfl)
  simp only [Act.put, List.getElem_toArray, List.getElem_cons_zero, List.getElem_cons_succ, List.setIfInBounds_toArray, List.set_cons_zero, List.set_cons_succ]
  refine wpAnyH_take (i := 8) (v := ?v8) rfl (by kernel_rfl) (by kernel_rfl) (by kernel_rfl) (fun _ _ _ h => h) (Or.inl ⟨by rfl, ?hy8⟩) (by assumption) ?rest8
  case hy8 => (intro W hSw; go_simp; first | done | with_reducible rfl)
  simp only [Act.put, List.getElem_toArray, List.getElem_cons_zero, List.getElem_cons_succ, List.setIfInBounds_toArray, List.set_cons_zero, List.set_cons_succ]
  refine wpAnyH_take (i := 9) (v := ?v9) rfl (by kernel_rfl) (by kernel_rfl) (by kernel_rfl) (fun _ _ _ h => h) (Or.inl ⟨by rfl, ?hy9⟩) (by assumption) ?rest9
  case hy9 => (intro W hSw; go_simp; first | done | with_reducible rfl)
  simp only [Act.put, List.getElem_toArray, List.getElem_cons_zero, List.getElem_cons_succ, List.setIfInBounds_toArray, List.set_cons_zero, List.set_cons_succ]
  refine wpAnyH_done (by kernel_rfl) ?_ _
  clear hHeld2
  go_wp2_with fail
  go_ret
  exact ⟨rfl, HB4.out⟩
set_option maxRecDepth 100000 in
set_option maxHeartbeats 4000000 in
theorem dck_1_false_false_false (head at_ steps moved from_ to_ left next : Nat) (w : World) (hs : steps ≤ 64) (hz : (from_ = 0 ∧ to_ = 0 ∧ left = 0 ∧ next = 0)) : Calls Tryd.prog 15 #[.agg #[.int .u32 1, .int .u32 (head : Nat), .int .u32 (at_ : Nat), .int .u32 (steps : Nat), .int .u32 (moved : Nat), .bool false, .int .u32 (from_ : Nat), .int .u32 (to_ : Nat), .int .u32 (left : Nat), .int .u32 (next : Nat), .bool false]] w fun e w' => e = .returned (.nilIface) ∧ Below w.heap.size w w' := by
  have HW := Lib.hid (fun W => dma_without ⟨1, head, at_, steps, moved, false, from_, to_, left, next, false⟩ W)
  have hne : ∀ W, (binOp BinOp.neq 33 (.agg #[.int .u32 1, .int .u32 (head : Nat), .int .u32 (at_ : Nat), .int .u32 (steps : Nat), .int .u32 (moved : Nat), .bool false, .int .u32 (from_ : Nat), .int .u32 (to_ : Nat), .int .u32 (left : Nat), .int .u32 (next : Nat), .bool false]) (.agg #[.int .u32 1, .int .u32 (head : Nat), .int .u32 (at_ : Nat), .int .u32 (steps : Nat), .int .u32 (moved : Nat), .bool false, .int .u32 0, .int .u32 0, .int .u32 0, .int .u32 0, .bool false])).run Tryd.prog W = .ok (.bool false) W := fun W => by
    have h := dst_neq ⟨1, head, at_, steps, moved, false, from_, to_, left, next, false⟩ ⟨1, head, at_, steps, moved, false, 0, 0, 0, 0, false⟩ W
    rw [show (!decide ((⟨1, head, at_, steps, moved, false, from_, to_, left, next, false⟩ : Dst) = ⟨1, head, at_, steps, moved, false, 0, 0, 0, 0, false⟩)) = false from by rw [decide_eq_true (by obtain ⟨rfl, rfl, rfl, rfl⟩ := hz; rfl)]; rfl] at h
    exact h
  simp only [Dst.c, Dst.without] at HW
  have b1 : decide ((64 : Int) < (steps : Int)) = false := by simp; omega
  clear hs hz
  have k0 := heap_alloc_new w (.cells #[.int .u32 1, .int .u32 (head : Nat), .int .u32 (at_ : Nat), .int .u32 (steps : Nat), .int .u32 (moved : Nat), .bool false, .int .u32 (from_ : Nat), .int .u32 (to_ : Nat), .int .u32 (left : Nat), .int .u32 (next : Nat), .bool false] 33)
  have hb0 := (Below.refl w.heap.size w).alloc (Nat.le_refl _) (.cells #[.int .u32 1, .int .u32 (head : Nat), .int .u32 (at_ : Nat), .int .u32 (steps : Nat), .int .u32 (moved : Nat), .bool false, .int .u32 (from_ : Nat), .int .u32 (to_ : Nat), .int .u32 (left : Nat), .int .u32 (next : Nat), .bool false] 33)
  have K0 := Lib.hid k0
  have HB0 := Lib.hid hb0
  clear k0 hb0
  go_enter Tryd.func15, Tryd.ntmps15
  go_upto_region 6 with fail
  refine wp_region_held_drew (S := fun W => KX (fun _ => False) (w.alloc (.cells #[.int .u32 1, .int .u32 (head : Nat), .int .u32 (at_ : Nat), .int .u32 (steps : Nat), .int .u32 (moved : Nat), .bool false, .int .u32 (from_ : Nat), .int .u32 (to_ : Nat), .int .u32 (left : Nat), .int .u32 (next : Nat), .bool false] 33)) W) (by kernel_rfl) ((KX.refl (fun _ => False) _).drew) (fun hHeld => ?_)
  refine wpAnyH_take (i := 0) (v := ?v0) rfl (by kernel_rfl) (by kernel_rfl) (by kernel_rfl) (fun _ _ _ h => h) (Or.inl ⟨by rfl, ?hy0⟩) (by assumption) ?rest0
  case hy0 => (intro W hSw; go_simp; first | done | with_reducible rfl)
  simp only [Act.put, List.getElem_toArray, List.getElem_cons_zero, List.setIfInBounds_toArray, List.set_cons_zero, List.set_cons_succ]
  refine wpAnyH_take (i := 1) (v := ?v1) rfl (by kernel_rfl) (by kernel_rfl) (by kernel_rfl) (fun _ _ _ h => h) (Or.inl ⟨by rfl, ?hy1⟩) (by assumption) ?rest1
  case hy1 => (intro W hSw; have cj := (cell_of_row _ _ 5 _ _ _ (hSw.heap K0.out id)).trans (rfl : _ = some (.bool false : Value)); go_simp; first | done | with_reducible rfl)
  simp only [Act.put, List.getElem_toArray, List.getElem_cons_zero, List.getElem_cons_succ, List.setIfInBounds_toArray, List.set_cons_zero, List.set_cons_succ]
  refine wpAnyH_take (i := 2) (v := ?v2) rfl (by kernel_rfl) (by kernel_rfl) (by kernel_rfl) (fun _ _ _ h => h) (Or.inl ⟨by rfl, ?hy2⟩) (by assumption) ?rest2
  case hy2 => (intro W hSw; go_simp; first | done | with_reducible rfl)
  simp only [Act.put, List.getElem_toArray, List.getElem_cons_zero, List.getElem_cons_succ, List.setIfInBounds_toArray, List.set_cons_zero, List.set_cons_succ]
  refine wpAnyH_take (i := 3) (v := ?v3) rfl (by kernel_rfl) (by kernel_rfl) (by kernel_rfl) (fun _ _ _ h => h) (Or.inl ⟨by rfl, ?hy3⟩) (by assumption) ?rest3
  case hy3 => (intro W hSw; go_simp; first | done | with_reducible rfl)
  simp only [Act.put, List.getElem_toArray, List.getElem_cons_zero, List.getElem_cons_succ, List.setIfInBounds_toArray, List.set_cons_zero, List.set_cons_succ]
  refine wpAnyH_take (i := 4) rfl (by kernel_rfl) (by kernel_rfl) (by kernel_rfl) (fun _ _ _ h => h) (yieldsIf_load_mid (by rfl) 33 _ rfl (w.heap.size) 0 rfl #[.int .u32 1, .int .u32 (head : Nat), .int .u32 (at_ : Nat), .int .u32 (steps : Nat), .int .u32 (moved : Nat), .bool false, .int .u32 (from_ : Nat), .int .u32 (to_ : Nat), .int .u32 (left : Nat), .int .u32 (next : Nat), .bool false].toList _ (fun W hSw => range_of_all (hSw.heap K0.out id)) Tryd.underlying33 rfl ?hi4) (by assumption) ?rest4
  case hi4 => kernel_rfl
  simp only [Act.put, List.getElem_toArray, List.getElem_cons_zero, List.getElem_cons_succ, List.setIfInBounds_toArray, List.set_cons_zero, List.set_cons_succ]
  refine wpAnyH_take (i := 5) rfl (by kernel_rfl) (by kernel_rfl) (by kernel_rfl) (fun _ _ _ h => h) (yieldsIf_load_mid (by rfl) 33 _ rfl (w.heap.size) 0 rfl #[.int .u32 1, .int .u32 (head : Nat), .int .u32 (at_ : Nat), .int .u32 (steps : Nat), .int .u32 (moved : Nat), .bool false, .int .u32 (from_ : Nat), .int .u32 (to_ : Nat), .int .u32 (left : Nat), .int .u32 (next : Nat), .bool false].toList _ (fun W hSw => range_of_all (hSw.heap K0.out id)) Tryd.underlying33 rfl ?hi5) (by assumption) ?rest5
  case hi5 => kernel_rfl
  simp only [Act.put, List.getElem_toArray, List.getElem_cons_zero, List.getElem_cons_succ, List.setIfInBounds_toArray, List.set_cons_zero, List.set_cons_succ]
  refine wpAnyH_ready (rs := [6]) (by kernel_rfl) (by simp) ?_
  refine AllReadyH.cons (o := _) rfl (fun K hK => ?_) (AllReadyH.nil)
  simp only [List.getElem_toArray, List.getElem_cons_zero, List.getElem_cons_succ]
  go_simp
  refine (HW.out _).mono ?_
  rintro e w1 ⟨rfl, hb⟩
  refine hK.out _ _ (hHeld.trans (KX.of_below (X := (fun _ => False)) hb) (fun _ _ h => h)) (fun hHeld2 => ?_)
  clear hK K
  have K3 := Lib.hid (keepB (a := (w.alloc (.cells #[.int .u32 1, .int .u32 (head : Nat), .int .u32 (at_ : Nat), .int .u32 (steps : Nat), .int .u32 (moved : Nat), .bool false, .int .u32 (from_ : Nat), .int .u32 (to_ : Nat), .int .u32 (left : Nat), .int .u32 (next : Nat), .bool false] 33)).drew) K0.out hb)
  have HB4 := Lib.hid ((HB0.out.drew).trans (hb.mono (HB0.out.drew).size))
  clear HB0
  clear hb
  refine wpAnyH_take (i := 7) (v := ?v7) rfl (by kernel_rfl) (by kernel_rfl) (by kernel_rfl) (fun _ _ _ h => h) (Or.inl ⟨by rfl, ?hy7⟩) (by assumption) ?rest7
  case hy7 => (intro W hSw; go_simp; first | done | with_reducible rfl)
  simp only [Act.put, List.getElem_toArray, List.getElem_cons_zero, List.getElem_cons_succ, List.setIfInBounds_toArray, List.set_cons_zero, List.set_cons_succ]
  refine wpAnyH_take (i := 8) (v := ?v8) rfl (by kernel_rfl) (by kernel_rfl) (by kernel_rfl) (fun _ _ _ h => h) (Or.inl ⟨by rfl, ?hy8⟩) (by assumption) ?rest8
  case hy8 => (intro W hSw; go_simp; first | done | with_reducible rfl)
  simp only [Act.put, List.getElem_toArray, List.getElem_cons_zero, List.getElem_cons_succ, List.setIfInBounds_toArray, List.set_cons_zero, List.set_cons_succ]
  refine wpAnyH_take (i := 9) (v := ?v9) rfl (by kernel_rfl) (by kernel_rfl) (by kernel_rfl) (fun _ _ _ h => h) (Or.inl ⟨by rfl, ?hy9⟩) (by assumption) ?rest9
  case hy9 => (intro W hSw; go_simp; first | done | with_reducible rfl)
  simp only [Act.put, List.getElem_toArray, List.getElem_cons_zero, List.getElem_cons_succ, List.setIfInBounds_toArray, List.set_cons_zero, List.set_cons_succ]
  refine wpAnyH_done (by kernel_rfl) ?_ _
  clear hHeld2
  go_wp2_with fail
  go_ret
  exact ⟨rfl, HB4.out⟩
set_option maxRecDepth 100000 in
set_option maxHeartbeats 4000000 in
theorem dck_2_false_true_true (head at_ steps moved from_ to_ left next : Nat) (w : World) (hs : steps ≤ 64) (hz : ¬ (from_ = 0 ∧ to_ = 0 ∧ left = 0 ∧ next = 0)) : Calls Tryd.prog 15 #[.agg #[.int .u32 2, .int .u32 (head : Nat), .int .u32 (at_ : Nat), .int .u32 (steps : Nat), .int .u32 (moved : Nat), .bool false, .int .u32 (from_ : Nat), .int .u32 (to_ : Nat), .int .u32 (left : Nat), .int .u32 (next : Nat), .bool true]] w fun e w' => e = .returned (errV 1) ∧ Below w.heap.size w w' := by
  have HW := Lib.hid (fun W => dma_without ⟨2, head, at_, steps, moved, false, from_, to_, left, next, true⟩ W)
  have hne : ∀ W, (binOp BinOp.neq 33 (.agg #[.int .u32 2, .int .u32 (head : Nat), .int .u32 (at_ : Nat), .int .u32 (steps : Nat), .int .u32 (moved : Nat), .bool false, .int .u32 (from_ : Nat), .int .u32 (to_ : Nat), .int .u32 (left : Nat), .int .u32 (next : Nat), .bool true]) (.agg #[.int .u32 2, .int .u32 (head : Nat), .int .u32 (at_ : Nat), .int .u32 (steps : Nat), .int .u32 (moved : Nat), .bool false, .int .u32 0, .int .u32 0, .int .u32 0, .int .u32 0, .bool true])).run Tryd.prog W = .ok (.bool true) W := fun W => by
    have h := dst_neq ⟨2, head, at_, steps, moved, false, from_, to_, left, next, true⟩ ⟨2, head, at_, steps, moved, false, 0, 0, 0, 0, true⟩ W
    rw [show (!decide ((⟨2, head, at_, steps, moved, false, from_, to_, left, next, true⟩ : Dst) = ⟨2, head, at_, steps, moved, false, 0, 0, 0, 0, true⟩)) = true from by rw [decide_eq_false (by intro e; simp only [Dst.mk.injEq, true_and, and_true] at e; exact hz ⟨by omega, by omega, by omega, by omega⟩)]; rfl] at h
    exact h
  simp only [Dst.c, Dst.without] at HW
  have b1 : decide ((64 : Int) < (steps : Int)) = false := by simp; omega
  clear hs hz
  have k0 := heap_alloc_new w (.cells #[.int .u32 2, .int .u32 (head : Nat), .int .u32 (at_ : Nat), .int .u32 (steps : Nat), .int .u32 (moved : Nat), .bool false, .int .u32 (from_ : Nat), .int .u32 (to_ : Nat), .int .u32 (left : Nat), .int .u32 (next : Nat), .bool true] 33)
  have hb0 := (Below.refl w.heap.size w).alloc (Nat.le_refl _) (.cells #[.int .u32 2, .int .u32 (head : Nat), .int .u32 (at_ : Nat), .int .u32 (steps : Nat), .int .u32 (moved : Nat), .bool false, .int .u32 (from_ : Nat), .int .u32 (to_ : Nat), .int .u32 (left : Nat), .int .u32 (next : Nat), .bool true] 33)
  have K0 := Lib.hid k0
  have HB0 := Lib.hid hb0
  clear k0 hb0
  go_enter Tryd.func15, Tryd.ntmps15
  go_upto_region 6 with fail
  refine wp_region_held_drew (S := fun W => KX (fun _ => False) (w.alloc (.cells #[.int .u32 2, .int .u32 (head : Nat), .int .u32 (at_ : Nat), .int .u32 (steps : Nat), .int .u32 (moved : Nat), .bool false, .int .u32 (from_ : Nat), .int .u32 (to_ : Nat), .int .u32 (left : Nat), .int .u32 (next : Nat), .bool true] 33)) W) (by kernel_rfl) ((KX.refl (fun _ => False) _).drew) (fun hHeld => ?_)
  refine wpAnyH_take (i := 0) (v := ?v0) rfl (by kernel_rfl) (by kernel_rfl) (by kernel_rfl) (fun _ _ _ h => h) (Or.inl ⟨by rfl, ?hy0⟩) (by assumption) ?rest0
  case hy0 => (intro W hSw; go_simp; first | done | with_reducible rfl)
  simp only [Act.put, List.getElem_toArray, List.getElem_cons_zero, List.setIfInBounds_toArray, List.set_cons_zero, List.set_cons_succ]
  refine wpAnyH_take (i := 1) (v := ?v1) rfl (by kernel_rfl) (by kernel_rfl) (by kernel_rfl) (fun _ _ _ h => h) (Or.inl ⟨by rfl, ?hy1⟩) (by assumption) ?rest1
  case hy1 => (intro W hSw; have cj := (cell_of_row _ _ 5 _ _ _ (hSw.heap K0.out id)).trans (rfl : _ = some (.bool false : Value)); go_simp; first | done | with_reducible rfl)
  simp only [Act.put, List.getElem_toArray, List.getElem_cons_zero, List.getElem_cons_succ, List.setIfInBounds_toArray, List.set_cons_zero, List.set_cons_succ]
  refine wpAnyH_take (i := 2) (v := ?v2) rfl (by kernel_rfl) (by kernel_rfl) (by kernel_rfl) (fun _ _ _ h => h) (Or.inl ⟨by rfl, ?hy2⟩) (by assumption) ?rest2
  case hy2 => (intro W hSw; go_simp; first | done | with_reducible rfl)
  simp only [Act.put, List.getElem_toArray, List.getElem_cons_zero, List.getElem_cons_succ, List.setIfInBounds_toArray, List.set_cons_zero, List.set_cons_succ]
  refine wpAnyH_take (i := 3) (v := ?v3) rfl (by kernel_rfl) (by kernel_rfl) (by kernel_rfl) (fun _ _ _ h => h) (Or.inl ⟨by rfl, ?hy3⟩) (by assumption) ?rest3
  case hy3 => (intro W hSw; go_simp; first | done | with_reducible rfl)
  simp only [Act.put, List.getElem_toArray, List.getElem_cons_zero, List.getElem_cons_succ, List.setIfInBounds_toArray, List.set_cons_zero, List.set_cons_succ]
  refine wpAnyH_take (i := 4) rfl (by kernel_rfl) (by kernel_rfl) (by kernel_rfl) (fun _ _ _ h => h) (yieldsIf_load_mid (by rfl) 33 _ rfl (w.heap.size) 0 rfl #[.int .u32 2, .int .u32 (head : Nat), .int .u32 (at_ : Nat), .int .u32 (steps : Nat), .int .u32 (moved : Nat), .bool false, .int .u32 (from_ : Nat), .int .u32 (to_ : Nat), .int .u32 (left : Nat), .int .u32 (next : Nat), .bool true].toList _ (fun W hSw => range_of_all (hSw.heap K0.out id)) Tryd.underlying33 rfl ?hi4) (by assumption) ?rest4
  case hi4 => kernel_rfl
  simp only [Act.put, List.getElem_toArray, List.getElem_cons_zero, List.getElem_cons_succ, List.setIfInBounds_toArray, List.set_cons_zero, List.set_cons_succ]
  refine wpAnyH_take (i := 5) rfl (by kernel_rfl) (by kernel_rfl) (by kernel_rfl) (fun _ _ _ h => h) (yieldsIf_load_mid (by rfl) 33 _ rfl (w.heap.size) 0 rfl #[.int .u32 2, .int .u32 (head : Nat), .int .u32 (at_ : Nat), .int .u32 (steps : Nat), .int .u32 (moved : Nat), .bool false, .int .u32 (from_ : Nat), .int .u32 (to_ : Nat), .int .u32 (left : Nat), .int .u32 (next : Nat), .bool true].toList _ (fun W hSw => range_of_all (hSw.heap K0.out id)) Tryd.underlying33 rfl ?hi5) (by assumption) ?rest5
  case hi5 => kernel_rfl
  simp only [Act.put, List.getElem_toArray, List.getElem_cons_zero, List.getElem_cons_succ, List.setIfInBounds_toArray, List.set_cons_zero, List.set_cons_succ]
  refine wpAnyH_ready (rs := [6]) (by kernel_rfl) (by simp) ?_
  refine AllReadyH.cons (o := _) rfl (fun K hK => ?_) (AllReadyH.nil)
  simp only [List.getElem_toArray, List.getElem_cons_zero, List.getElem_cons_succ]
  go_simp
  refine (HW.out _).mono ?_
  rintro e w1 ⟨rfl, hb⟩
  refine hK.out _ _ (hHeld.trans (KX.of_below (X := (fun _ => False)) hb) (fun _ _ h => h)) (fun hHeld2 => ?_)
  clear hK K
  have K3 := Lib.hid (keepB (a := (w.alloc (.cells #[.int .u32 2, .int .u32 (head : Nat), .int .u32 (at_ : Nat), .int .u32 (steps : Nat), .int .u32 (moved : Nat), .bool false, .int .u32 (from_ : Nat), .int .u32 (to_ : Nat), .int .u32 (left : Nat), .int .u32 (next : Nat), .bool true] 33)).drew) K0.out hb)
  have HB4 := Lib.hid ((HB0.out.drew).trans (hb.mono (HB0.out.drew).size))
  clear HB0
  clear hb
  refine wpAnyH_take (i := 7) (v := ?v7) rfl (by kernel_rfl) (by kernel_rfl) (by kernel_rfl) (fun _ _ _ h => h) (Or.inl ⟨by rfl, ?hy7⟩) (by assumption) ?rest7
  case hy7 => (intro W hSw; go_simp; first | done | with_reducible rfl)
  simp only [Act.put, List.getElem_toArray, List.getElem_cons_zero, List.getElem_cons_succ, List.setIfInBounds_toArray, List.set_cons_zero, List.set_cons_succ]
  refine wpAnyH_take (i := 8) (v := ?v8) rfl (by kernel_rfl) (by kernel_rfl) (by kernel_rfl) (fun _ _ _ h => h) (Or.inl ⟨by rfl, ?hy8⟩) (by assumption) ?rest8
  case hy8 => (intro W hSw; go_simp; first | done | with_reducible rfl)
  simp only [Act.put, List.getElem_toArray, List.getElem_cons_zero, List.getElem_cons_succ, List.setIfInBounds_toArray, List.set_cons_zero, List.set_cons_succ]
  refine wpAnyH_take (i := 9) (v := ?v9) rfl (by kernel_rfl) (by kernel_rfl) (by kernel_rfl) (fun _ _ _ h => h) (Or.inl ⟨by rfl, ?hy9⟩) (by assumption) ?rest9
  case hy9 => (intro W hSw; go_simp; first | done | with_reducible rfl)
  simp only [Act.put, List.getElem_toArray, List.getElem_cons_zero, List.getElem_cons_succ, List.setIfInBounds_toArray, List.set_cons_zero, List.set_cons_succ]
  refine wpAnyH_done (by kernel_rfl) ?_ _
  clear hHeld2
  go_wp2_with fail
  go_ret
  exact ⟨rfl, HB4.out⟩
set_option maxRecDepth 100000 in
set_option maxHeartbeats 4000000 in
theorem dck_2_false_true_false (head at_ steps moved from_ to_ left next : Nat) (w : World) (hs : steps ≤ 64) (hz : (from_ = 0 ∧ to_ = 0 ∧ left = 0 ∧ next = 0)) : Calls Tryd.prog 15 #[.agg #[.int .u32 2, .int .u32 (head : Nat), .int .u32 (at_ : Nat), .int .u32 (steps : Nat), .int .u32 (moved : Nat), .bool false, .int .u32 (from_ : Nat), .int .u32 (to_ : Nat), .int .u32 (left : Nat), .int .u32 (next : Nat), .bool true]] w fun e w' => e = .returned (.nilIface) ∧ Below w.heap.size w w' := by
  have HW := Lib.hid (fun W => dma_without ⟨2, head, at_, steps, moved, false, from_, to_, left, next, true⟩ W)
  have hne : ∀ W, (binOp BinOp.neq 33 (.agg #[.int .u32 2, .int .u32 (head : Nat), .int .u32 (at_ : Nat), .int .u32 (steps : Nat), .int .u32 (moved : Nat), .bool false, .int .u32 (from_ : Nat), .int .u32 (to_ : Nat), .int .u32 (left : Nat), .int .u32 (next : Nat), .bool true]) (.agg #[.int .u32 2, .int .u32 (head : Nat), .int .u32 (at_ : Nat), .int .u32 (steps : Nat), .int .u32 (moved : Nat), .bool false, .int .u32 0, .int .u32 0, .int .u32 0, .int .u32 0, .bool true])).run Tryd.prog W = .ok (.bool false) W := fun W => by
    have h := dst_neq ⟨2, head, at_, steps, moved, false, from_, to_, left, next, true⟩ ⟨2, head, at_, steps, moved, false, 0, 0, 0, 0, true⟩ W
    rw [show (!decide ((⟨2, head, at_, steps, moved, false, from_, to_, left, next, true⟩ : Dst) = ⟨2, head, at_, steps, moved, false, 0, 0, 0, 0, true⟩)) = false from by rw [decide_eq_true (by obtain ⟨rfl, rfl, rfl, rfl⟩ := hz; rfl)]; rfl] at h
    exact h
  simp only [Dst.c, Dst.without] at HW
  have b1 : decide ((64 : Int) < (steps : Int)) = false := by simp; omega
  clear hs hz
  have k0 := heap_alloc_new w (.cells #[.int .u32 2, .int .u32 (head : Nat), .int .u32 (at_ : Nat), .int .u32 (steps : Nat), .int .u32 (moved : Nat), .bool false, .int .u32 (from_ : Nat), .int .u32 (to_ : Nat), .int .u32 (left : Nat), .int .u32 (next : Nat), .bool true] 33)
  have hb0 := (Below.refl w.heap.size w).alloc (Nat.le_refl _) (.cells #[.int .u32 2, .int .u32 (head : Nat), .int .u32 (at_ : Nat), .int .u32 (steps : Nat), .int .u32 (moved : Nat), .bool false, .int .u32 (from_ : Nat), .int .u32 (to_ : Nat), .int .u32 (left : Nat), .int .u32 (next : Nat), .bool true] 33)
  have K0 := Lib.hid k0
  have HB0 := Lib.hid hb0
  clear k0 hb0
  go_enter Tryd.func15, Tryd.ntmps15
  go_upto_region 6 with fail
  refine wp_region_held_drew (S := fun W => KX (fun _ => False) (w.alloc (.cells #[.int .u32 2, .int .u32 (head : Nat), .int .u32 (at_ : Nat), .int .u32 (steps : Nat), .int .u32 (moved : Nat), .bool false, .int .u32 (from_ : Nat), .int .u32 (to_ : Nat), .int .u32 (left : Nat), .int .u32 (next : Nat), .bool true] 33)) W) (by kernel_rfl) ((KX.refl (fun _ => False) _).drew) (fun hHeld => ?_)
  refine wpAnyH_take (i := 0) (v := ?v0) rfl (by kernel_rfl) (by kernel_rfl) (by kernel_rfl) (fun _ _ _ h => h) (Or.inl ⟨by rfl, ?hy0⟩) (by assumption) ?rest0
  case hy0 => (intro W hSw; go_simp; first | done | with_reducible rfl)
  simp only [Act.put, List.getElem_toArray, List.getElem_cons_zero, List.setIfInBounds_toArray, List.set_cons_zero, List.set_cons_succ]
  refine wpAnyH_take (i := 1) (v := ?v1) rfl (by kernel_rfl) (by kernel_rfl) (by kernel_rfl) (fun _ _ _ h => h) (Or.inl ⟨by rfl, ?hy1⟩) (by assumption) ?rest1
  case hy1 => (intro W hSw; have cj := (cell_of_row _ _ 5 _ _ _ (hSw.heap K0.out id)).trans (rfl : _ = some (.bool false : Value)); go_simp; first | done | with_reducible rfl)
  simp only [Act.put, List.getElem_toArray, List.getElem_cons_zero, List.getElem_cons_succ, List.setIfInBounds_toArray, List.set_cons_zero, List.set_cons_succ]
  refine wpAnyH_take (i := 2) (v := ?v2) rfl (by kernel_rfl) (by kernel_rfl) (by kernel_rfl) (fun _ _ _ h => h) (Or.inl ⟨by rfl, ?hy2⟩) (by assumption) ?rest2
  case hy2 => (intro W hSw; go_simp; first | done | with_reducible rfl)
  simp only [Act.put, List.getElem_toArray, List.getElem_cons_zero, List.getElem_cons_succ, List.setIfInBounds_toArray, List.set_cons_zero, List.set_cons_succ]
  refine wpAnyH_take (i := 3) (v := ?v3) rfl (by kernel_rfl) (by kernel_rfl) (by kernel_rfl) (fun _ _ _ h => h) (Or.inl ⟨by rfl, ?hy3⟩) (by assumption) ?rest3
  case hy3 => (intro W hSw; go_simp; first | done | with_reducible rfl)
  simp only [Act.put, List.getElem_toArray, List.getElem_cons_zero, List.getElem_cons_succ, List.setIfInBounds_toArray, List.set_cons_zero, List.set_cons_succ]
  refine wpAnyH_take (i := 4) rfl (by kernel_rfl) (by kernel_rfl) (by kernel_rfl) (fun _ _ _ h => h) (yieldsIf_load_mid (by rfl) 33 _ rfl (w.heap.size) 0 rfl #[.int .u32 2, .int .u32 (head : Nat), .int .u32 (at_ : Nat), .int .u32 (steps : Nat), .int .u32 (moved : Nat), .bool false, .int .u32 (from_ : Nat), .int .u32 (to_ : Nat), .int .u32 (left : Nat), .int .u32 (next : Nat), .bool true].toList _ (fun W hSw => range_of_all (hSw.heap K0.out id)) Tryd.underlying33 rfl ?hi4) (by assumption) ?rest4
  case hi4 => kernel_rfl
  simp only [Act.put, List.getElem_toArray, List.getElem_cons_zero, List.getElem_cons_succ, List.setIfInBounds_toArray, List.set_cons_zero, List.set_cons_succ]
  refine wpAnyH_take (i := 5) rfl (by kernel_rfl) (by kernel_rfl) (by kernel_rfl) (fun _ _ _ h => h) (yieldsIf_load_mid (by rfl) 33 _ rfl (w.heap.size) 0 rfl #[.int .u32 2, .int .u32 (head : Nat), .int .u32 (at_ : Nat), .int .u32 (steps : Nat), .int .u32 (moved : Nat), .bool false, .int .u32 (from_ : Nat), .int .u32 (to_ : Nat), .int .u32 (left : Nat), .int .u32 (next : Nat), .bool true].toList _ (fun W hSw => range_of_all (hSw.heap K0.out id)) Tryd.underlying33 rfl ?hi5) (by assumption) ?rest5
  case hi5 => kernel_rfl
  simp only [Act.put, List.getElem_toArray, List.getElem_cons_zero, List.getElem_cons_succ, List.setIfInBounds_toArray, List.set_cons_zero, List.set_cons_succ]
  refine wpAnyH_ready (rs := [6]) (by kernel_rfl) (by simp) ?_
  refine AllReadyH.cons (o := _) rfl (fun K hK => ?_) (AllReadyH.nil)
  simp only [List.getElem_toArray, List.getElem_cons_zero, List.getElem_cons_succ]
  go_simp
  refine (HW.out _).mono ?_
  rintro e w1 ⟨rfl, hb⟩
  refine hK.out _ _ (hHeld.trans (KX.of_below (X := (fun _ => False)) hb) (fun _ _ h => h)) (fun hHeld2 => ?_)
  clear hK K
  have K3 := Lib.hid (keepB (a := (w.alloc (.cells #[.int .u32 2, .int .u32 (head : Nat), .int .u32 (at_ : Nat), .int .u32 (steps : Nat), .int .u32 (moved : Nat), .bool false, .int .u32 (from_ : Nat), .int .u32 (to_ : Nat), .int .u32 (left : Nat), .int .u32 (next : Nat), .bool true] 33)).drew) K0.out hb)
  have HB4 := Lib.hid ((HB0.out.drew).trans (hb.mono (HB0.out.drew).size))
  clear HB0
  clear hb
  refine wpAnyH_take (i := 7) (v := ?v7) rfl (by kernel_rfl) (by kernel_rfl) (by kernel_rfl) (fun _ _ _ h => h) (Or.inl ⟨by rfl, ?hy7⟩) (by assumption) ?rest7
  case hy7 => (intro W hSw; go_simp; first | done | with_reducible rfl)
  simp only [Act.put, List.getElem_toArray, List.getElem_cons_zero, List.getElem_cons_succ, List.setIfInBounds_toArray, List.set_cons_zero, List.set_cons_succ]
  refine wpAnyH_take (i := 8) (v := ?v8) rfl (by kernel_rfl) (by kernel_rfl) (by kernel_rfl) (fun _ _ _ h => h) (Or.inl ⟨by rfl, ?hy8⟩) (by assumption) ?rest8
  case hy8 => (intro W hSw; go_simp; first | done | with_reducible rfl)
  simp only [Act.put, List.getElem_toArray, List.getElem_cons_zero, List.getElem_cons_succ, List.setIfInBounds_toArray, List.set_cons_zero, List.set_cons_succ]
  refine wpAnyH_take (i := 9) (v := ?v9) rfl (by kernel_rfl) (by kernel_rfl) (by kernel_rfl) (fun _ _ _ h => h) (Or.inl ⟨by rfl, ?hy9⟩) (by assumption) ?rest9
  case hy9 => (intro W hSw; go_simp; first | done | with_reducible rfl)
  simp only [Act.put, List.getElem_toArray, List.getElem_cons_zero, List.getElem_cons_succ, List.setIfInBounds_toArray, List.set_cons_zero, List.set_cons_succ]
  refine wpAnyH_done (by kernel_rfl) ?_ _
  clear hHeld2
  go_wp2_with fail
  go_ret
  exact ⟨rfl, HB4.out⟩
set_option maxRecDepth 100000 in
set_option maxHeartbeats 4000000 in
theorem dck_2_false_false_true (head at_ steps moved from_ to_ left next : Nat) (w : World) (hs : steps ≤ 64) (hz : ¬ (from_ = 0 ∧ to_ = 0 ∧ left = 0 ∧ next = 0)) : Calls Tryd.prog 15 #[.agg #[.int .u32 2, .int .u32 (head : Nat), .int .u32 (at_ : Nat), .int .u32 (steps : Nat), .int .u32 (moved : Nat), .bool false, .int .u32 (from_ : Nat), .int .u32 (to_ : Nat), .int .u32 (left : Nat), .int .u32 (next : Nat), .bool false]] w fun e w' => e = .returned (errV 1) ∧ Below w.heap.size w w' := by
  have HW := Lib.hid (fun W => dma_without ⟨2, head, at_, steps, moved, false, from_, to_, left, next, false⟩ W)
  have hne : ∀ W, (binOp BinOp.neq 33 (.agg #[.int .u32 2, .int .u32 (head : Nat), .int .u32 (at_ : Nat), .int .u32 (steps : Nat), .int .u32 (moved : Nat), .bool false, .int .u32 (from_ : Nat), .int .u32 (to_ : Nat), .int .u32 (left : Nat), .int .u32 (next : Nat), .bool false]) (.agg #[.int .u32 2, .int .u32 (head : Nat), .int .u32 (at_ : Nat), .int .u32 (steps : Nat), .int .u32 (moved : Nat), .bool false, .int .u32 0, .int .u32 0, .int .u32 0, .int .u32 0, .bool false])).run Tryd.prog W = .ok (.bool true) W := fun W => by
    have h := dst_neq ⟨2, head, at_, steps, moved, false, from_, to_, left, next, false⟩ ⟨2, head, at_, steps, moved, false, 0, 0, 0, 0, false⟩ W
    rw [show (!decide ((⟨2, head, at_, steps, moved, false, from_, to_, left, next, false⟩ : Dst) = ⟨2, head, at_, steps, moved, false, 0, 0, 0, 0, false⟩)) = true from by rw [decide_eq_false (by intro e; simp only [Dst.mk.injEq, true_and, and_true] at e; exact hz ⟨by omega, by omega, by omega, by omega⟩)]; rfl] at h
    exact h
  simp only [Dst.c, Dst.without] at HW
  have b1 : decide ((64 : Int) < (steps : Int)) = false := by simp; omega
  clear hs hz
  have k0 := heap_alloc_new w (.cells #[.int .u32 2, .int .u32 (head : Nat), .int .u32 (at_ : Nat), .int .u32 (steps : Nat), .int .u32 (moved : Nat), .bool false, .int .u32 (from_ : Nat), .int .u32 (to_ : Nat), .int .u32 (left : Nat), .int .u32 (next : Nat), .bool false] 33)
  have hb0 := (Below.refl w.heap.size w).alloc (Nat.le_refl _) (.cells #[.int .u32 2, .int .u32 (head : Nat), .int .u32 (at_ : Nat), .int .u32 (steps : Nat), .int .u32 (moved : Nat), .bool false, .int .u32 (from_ : Nat), .int .u32 (to_ : Nat), .int .u32 (left : Nat), .int .u32 (next : Nat), .bool false] 33)
  have K0 := Lib.hid k0
  have HB0 := Lib.hid hb0
  clear k0 hb0
  go_enter Tryd.func15, Tryd.ntmps15
  go_upto_region 6 with fail
  refine wp_region_held_drew (S := fun W => KX (fun _ => False) (w.alloc (.cells #[.int .u32 2, .int .u32 (head : Nat), .int .u32 (at_ : Nat), .int .u32 (steps : Nat), .int .u32 (moved : Nat), .bool false, .int .u32 (from_ : Nat), .int .u32 (to_ : Nat), .int .u32 (left : Nat), .int .u32 (next : Nat), .bool false] 33)) W) (by kernel_rfl) ((KX.refl (fun _ => False) _).drew) (fun hHeld => ?_)
  refine wpAnyH_take (i := 0) (v := ?v0) rfl (by kernel_rfl) (by kernel_rfl) (by kernel_rfl) (fun _ _ _ h => h) (Or.inl ⟨by rfl, ?hy0⟩) (by assumption) ?rest0
  case hy0 => (intro W hSw; go_simp; first | done | with_reducible rfl)
  simp only [Act.put, List.getElem_toArray, List.getElem_cons_zero, List.setIfInBounds_toArray, List.set_cons_zero, List.set_cons_succ]
  refine wpAnyH_take (i := 1) (v := ?v1) rfl (by kernel_rfl) (by kernel_rfl) (by kernel_rfl) (fun _ _ _ h => h) (Or.inl ⟨by rfl, ?hy1⟩) (by assumption) ?rest1
  case hy1 => (intro W hSw; have cj := (cell_of_row _ _ 5 _ _ _ (hSw.heap K0.out id)).trans (rfl : _ = some (.bool false : Value)); go_simp; first | done | with_reducible rfl)
  simp only [Act.put, List.getElem_toArray, List.getElem_cons_zero, List.getElem_cons_succ, List.setIfInBounds_toArray, List.set_cons_zero, List.set_cons_succ]
  refine wpAnyH_take (i := 2) (v := ?v2) rfl (by kernel_rfl) (by kernel_rfl) (by kernel_rfl) (fun _ _ _ h => h) (Or.inl ⟨by rfl, ?hy2⟩) (by assumption) ?rest2
  case hy2 => (intro W hSw; go_simp; first | done | with_reducible rfl)
  simp only [Act.put, List.getElem_toArray, List.getElem_cons_zero, List.getElem_cons_succ, List.setIfInBounds_toArray, List.set_cons_zero, List.set_cons_succ]
  refine wpAnyH_take (i := 3) (v := ?v3) rfl (by kernel_rfl) (by kernel_rfl) (by kernel_rfl) (fun _ _ _ h => h) (Or.inl ⟨by rfl, ?hy3⟩) (by assumption) ?rest3
  case hy3 => (intro W hSw; go_simp; first | done | with_reducible rfl)
  simp only [Act.put, List.getElem_toArray, List.getElem_cons_zero, List.getElem_cons_succ, List.setIfInBounds_toArray, List.set_cons_zero, List.set_cons_succ]
  refine wpAnyH_take (i := 4) rfl (by kernel_rfl) (by kernel_rfl) (by kernel_rfl) (fun _ _ _ h => h) (yieldsIf_load_mid (by rfl) 33 _ rfl (w.heap.size) 0 rfl #[.int .u32 2, .int .u32 (head : Nat), .int .u32 (at_ : Nat), .int .u32 (steps : Nat), .int .u32 (moved : Nat), .bool false, .int .u32 (from_ : Nat), .int .u32 (to_ : Nat), .int .u32 (left : Nat), .int .u32 (next : Nat), .bool false].toList _ (fun W hSw => range_of_all (hSw.heap K0.out id)) Tryd.underlying33 rfl ?hi4) (by assumption) ?rest4
  case hi4 => kernel_rfl
  simp only [Act.put, List.getElem_toArray, List.getElem_cons_zero, List.getElem_cons_succ, List.setIfInBounds_toArray, List.set_cons_zero, List.set_cons_succ]
  refine wpAnyH_take (i := 5) rfl (by kernel_rfl) (by kernel_rfl) (by kernel_rfl) (fun _ _ _ h => h) (yieldsIf_load_mid (by rfl) 33 _ rfl (w.heap.size) 0 rfl #[.int .u32 2, .int .u32 (head : Nat), .int .u32 (at_ : Nat), .int .u32 (steps : Nat), .int .u32 (moved : Nat), .bool false, .int .u32 (from_ : Nat), .int .u32 (to_ : Nat), .int .u32 (left : Nat), .int .u32 (next : Nat), .bool false].toList _ (fun W hSw => range_of_all (hSw.heap K0.out id)) Tryd.underlying33 rfl ?hi5) (by assumption) ?rest5
  case hi5 => kernel_rfl
  simp only [Act.put, List.getElem_toArray, List.getElem_cons_zero, List.getElem_cons_succ, List.setIfInBounds_toArray, List.set_cons_zero, List.set_cons_succ]
  refine wpAnyH_ready (rs := [6]) (by kernel_rfl) (by simp) ?_
  refine AllReadyH.cons (o := _) rfl (fun K hK => ?_) (AllReadyH.nil)
  simp only [List.getElem_toArray, List.getElem_cons_zero, List.getElem_cons_succ]
  go_simp
  refine (HW.out _).mono ?_
  rintro e w1 ⟨rfl, hb⟩
  refine hK.out _ _ (hHeld.trans (KX.of_below (X := (fun _ => False)) hb) (fun _ _ h => h)) (fun hHeld2 => ?_)
  clear hK K
  have K3 := Lib.hid (keepB (a := (w.alloc (.cells #[.int .u32 2, .int .u32 (head : Nat), .int .u32 (at_ : Nat), .int .u32 (steps : Nat), .int .u32 (moved : Nat), .bool false, .int .u32 (from_ : Nat), .int .u32 (to_ : Nat), .int .u32 (left : Nat), .int .u32 (next : Nat), .bool false] 33)).drew) K0.out hb)
  have HB4 := Lib.hid ((HB0.out.drew).trans (hb.mono (HB0.out.drew).size))
  clear HB0
  clear hb
  refine wpAnyH_take (i := 7) (v := ?v7) rfl (by kernel_rfl) (by kernel_rfl) (by kernel_rfl) (fun _ _ _ h => h) (Or.inl ⟨by rfl, ?hy7⟩) (by assumption) ?rest7
  case hy7 => (intro W hSw; go_simp; first | done | with_reducible rfl)
  simp only [Act.put, List.getElem_toArray, List.getElem_cons_zero, List.getElem_cons_succ, List.setIfInBounds_toArray, List.set_cons_zero, List.set_cons_succ]
  refine wpAnyH_take (i := 8) (v := ?v8) rfl (by kernel_rfl) (by kernel_rfl) (by kernel_rfl) (fun _ _ _ h => h) (Or.inl ⟨by rfl, ?hy8⟩) (by assumption) ?rest8
  case hy8 => (intro W hSw; go_simp; first | done | with_reducible rfl)
  simp only [Act.put, List.getElem_toArray, List.getElem_cons_zero, List.getElem_cons_succ, List.setIfInBounds_toArray, List.set_cons_zero, List.set_cons_succ]
  refine wpAnyH_take (i := 9) (v := ?v9) rfl (by kernel_rfl) (by kernel_rfl) (by kernel_rfl) (fun _ _ _ h => h) (Or.inl ⟨by rfl, ?hy9⟩) (by assumption) ?rest9
  case hy9 => (intro W hSw; go_simp; first | done | with_reducible rfl)
  simp only [Act.put, List.getElem_toArray, List.getElem_cons_zero, List.getElem_cons_succ, List.setIfInBounds_toArray, List.set_cons_zero, List.set_cons_succ]
  refine wpAnyH_done (by kernel_rfl) ?_ _
  clear hHeld2
  go_wp2_with fail
  go_ret
  exact ⟨rfl, HB4.out⟩
set_option maxRecDepth 100000 in
set_option maxHeartbeats 4000000 in
theorem dck_2_false_false_false (head at_ steps moved from_ to_ left next : Nat) (w : World) (hs : steps ≤ 64) (hz : (from_ = 0 ∧ to_ = 0 ∧ left = 0 ∧ next = 0)) : Calls Tryd.prog 15 #[.agg #[.int .u32 2, .int .u32 (head : Nat), .int .u32 (at_ : Nat), .int .u32 (steps : Nat), .int .u32 (moved : Nat), .bool false, .int .u32 (from_ : Nat), .int .u32 (to_ : Nat), .int .u32 (left : Nat), .int .u32 (next : Nat), .bool false]] w fun e w' => e = .returned (.nilIface) ∧ Below w.heap.size w w' := by
  have HW := Lib.hid (fun W => dma_without ⟨2, head, at_, steps, moved, false, from_, to_, left, next, false⟩ W)
  have hne : ∀ W, (binOp BinOp.neq 33 (.agg #[.int .u32 2, .int .u32 (head : Nat), .int .u32 (at_ : Nat), .int .u32 (steps : Nat), .int .u32 (moved : Nat), .bool false, .int .u32 (from_ : Nat), .int .u32 (to_ : Nat), .int .u32 (left : Nat), .int .u32 (next : Nat), .bool false]) (.agg #[.int .u32 2, .int .u32 (head : Nat), .int .u32 (at_ : Nat), .int .u32 (steps : Nat), .int .u32 (moved : Nat), .bool false, .int .u32 0, .int .u32 0, .int .u32 0, .int .u32 0, .bool false])).run Tryd.prog W = .ok (.bool false) W := fun W => by
    have h := dst_neq ⟨2, head, at_, steps, moved, false, from_, to_, left, next, false⟩ ⟨2, head, at_, steps, moved, false, 0, 0, 0, 0, false⟩ W
    rw [show (!decide ((⟨2, head, at_, steps, moved, false, from_, to_, left, next, false⟩ : Dst) = ⟨2, head, at_, steps, moved, false, 0, 0, 0, 0, false⟩)) = false from by rw [decide_eq_true (by obtain ⟨rfl, rfl, rfl, rfl⟩ := hz; rfl)]; rfl] at h
    exact h
  simp only [Dst.c, Dst.without] at HW
  have b1 : decide ((64 : Int) < (steps : Int)) = false := by simp; omega
  clear hs hz
  have k0 := heap_alloc_new w (.cells #[.int .u32 2, .int .u32 (head : Nat), .int .u32 (at_ : Nat), .int .u32 (steps : Nat), .int .u32 (moved : Nat), .bool false, .int .u32 (from_ : Nat), .int .u32 (to_ : Nat), .int .u32 (left : Nat), .int .u32 (next : Nat), .bool false] 33)
  have hb0 := (Below.refl w.heap.size w).alloc (Nat.le_refl _) (.cells #[.int .u32 2, .int .u32 (head : Nat), .int .u32 (at_ : Nat), .int .u32 (steps : Nat), .int .u32 (moved : Nat), .bool false, .int .u32 (from_ : Nat), .int .u32 (to_ : Nat), .int .u32 (left : Nat), .int .u32 (next : Nat), .bool false] 33)
  have K0 := Lib.hid k0
  have HB0 := Lib.hid hb0
  clear k0 hb0
  go_enter Tryd.func15, Tryd.ntmps15
  go_upto_region 6 with fail
  refine wp_region_held_drew (S := fun W => KX (fun _ => False) (w.alloc (.cells #[.int .u32 2, .int .u32 (head : Nat), .int .u32 (at_ : Nat), .int .u32 (steps : Nat), .int .u32 (moved : Nat), .bool false, .int .u32 (from_ : Nat), .int .u32 (to_ : Nat), .int .u32 (left : Nat), .int .u32 (next : Nat), .bool false] 33)) W) (by kernel_rfl) ((KX.refl (fun _ => False) _).drew) (fun hHeld => ?_)
  refine wpAnyH_take (i := 0) (v := ?v0) rfl (by kernel_rfl) (by kernel_rfl) (by kernel_rfl) (fun _ _ _ h => h) (Or.inl ⟨by rfl, ?hy0⟩) (by assumption) ?rest0
  case hy0 => (intro W hSw; go_simp; first | done | with_reducible rfl)
  simp only [Act.put, List.getElem_toArray, List.getElem_cons_zero, List.setIfInBounds_toArray, List.set_cons_zero, List.set_cons_succ]
  refine wpAnyH_take (i := 1) (v := ?v1) rfl (by kernel_rfl) (by kernel_rfl) (by kernel_rfl) (fun _ _ _ h => h) (Or.inl ⟨by rfl, ?hy1⟩) (by assumption) ?rest1
  case hy1 => (intro W hSw; have cj := (cell_of_row _ _ 5 _ _ _ (hSw.heap K0.out id)).trans (rfl : _ = some (.bool false : Value)); go_simp; first | done | with_reducible rfl)
  simp only [Act.put, List.getElem_toArray, List.getElem_cons_zero, List.getElem_cons_succ, List.setIfInBounds_toArray, List.set_cons_zero, List.set_cons_succ]
  refine wpAnyH_take (i := 2) (v := ?v2) rfl (by kernel_rfl) (by kernel_rfl) (by kernel_rfl) (fun _ _ _ h => h) (Or.inl ⟨by rfl, ?hy2⟩) (by assumption) ?rest2
  case hy2 => (intro W hSw; go_simp; first | done | with_reducible rfl)
  simp only [Act.put, List.getElem_toArray, List.getElem_cons_zero, List.getElem_cons_succ, List.setIfInBounds_toArray, List.set_cons_zero, List.set_cons_succ]
  refine wpAnyH_take (i := 3) (v := ?v3) rfl (by kernel_rfl) (by kernel_rfl) (by kernel_rfl) (fun _ _ _ h => h) (Or.inl ⟨by rfl, ?hy3⟩) (by assumption) ?rest3
  case hy3 => (intro W hSw; go_simp; first | done | with_reducible rfl)
  simp only [Act.put, List.getElem_toArray, List.getElem_cons_zero, List.getElem_cons_succ, List.setIfInBounds_toArray, List.set_cons_zero, List.set_cons_succ]
  refine wpAnyH_take (i := 4) rfl (by kernel_rfl) (by kernel_rfl) (by kernel_rfl) (fun _ _ _ h => h) (yieldsIf_load_mid (by rfl) 33 _ rfl (w.heap.size) 0 rfl #[.int .u32 2, .int .u32 (head : Nat), .int .u32 (at_ : Nat), .int .u32 (steps : Nat), .int .u32 (moved : Nat), .bool false, .int .u32 (from_ : Nat), .int .u32 (to_ : Nat), .int .u32 (left : Nat), .int .u32 (next : Nat), .bool false].toList _ (fun W hSw => range_of_all (hSw.heap K0.out id)) Tryd.underlying33 rfl ?hi4) (by assumption) ?rest4
  case hi4 => kernel_rfl
  simp only [Act.put, List.getElem_toArray, List.getElem_cons_zero, List.getElem_cons_succ, List.setIfInBounds_toArray, List.set_cons_zero, List.set_cons_succ]
  refine wpAnyH_take (i := 5) rfl (by kernel_rfl) (by kernel_rfl) (by kernel_rfl) (fun _ _ _ h => h) (yieldsIf_load_mid (by rfl) 33 _ rfl (w.heap.size) 0 rfl #[.int .u32 2, .int .u32 (head : Nat), .int .u32 (at_ : Nat), .int .u32 (steps : Nat), .int .u32 (moved : Nat), .bool false, .int .u32 (from_ : Nat), .int .u32 (to_ : Nat), .int .u32 (left : Nat), .int .u32 (next : Nat), .bool false].toList _ (fun W hSw => range_of_all (hSw.heap K0.out id)) Tryd.underlying33 rfl ?hi5) (by assumption) ?rest5
  case hi5 => kernel_rfl
  simp only [Act.put, List.getElem_toArray, List.getElem_cons_zero, List.getElem_cons_succ, List.setIfInBounds_toArray, List.set_cons_zero, List.set_cons_succ]
  refine wpAnyH_ready (rs := [6]) (by kernel_rfl) (by simp) ?_
  refine AllReadyH.cons (o := _) rfl (fun K hK => ?_) (AllReadyH.nil)
  simp only [List.getElem_toArray, List.getElem_cons_zero, List.getElem_cons_succ]
  go_simp
  refine (HW.out _).mono ?_
  rintro e w1 ⟨rfl, hb⟩
  refine hK.out _ _ (hHeld.trans (KX.of_below (X := (fun _ => False)) hb) (fun _ _ h => h)) (fun hHeld2 => ?_)
  clear hK K
  have K3 := Lib.hid (keepB (a := (w.alloc (.cells #[.int .u32 2, .int .u32 (head : Nat), .int .u32 (at_ : Nat), .int .u32 (steps : Nat), .int .u32 (moved : Nat), .bool false, .int .u32 (from_ : Nat), .int .u32 (to_ : Nat), .int .u32 (left : Nat), .int .u32 (next : Nat), .bool false] 33)).drew) K0.out hb)
  have HB4 := Lib.hid ((HB0.out.drew).trans (hb.mono (HB0.out.drew).size))
  clear HB0
  clear hb
  refine wpAnyH_take (i := 7) (v := ?v7) rfl (by kernel_rfl) (by kernel_rfl) (by kernel_rfl) (fun _ _ _ h => h) (Or.inl ⟨by rfl, ?hy7⟩) (by assumption) ?rest7
  case hy7 => (intro W hSw; go_simp; first | done | with_reducible rfl)
  simp only [Act.put, List.getElem_toArray, List.getElem_cons_zero, List.getElem_cons_succ, List.setIfInBounds_toArray, List.set_cons_zero, List.set_cons_succ]
  refine wpAnyH_take (i := 8) (v := ?v8) rfl (by kernel_rfl) (by kernel_rfl) (by kernel_rfl) (fun _ _ _ h => h) (Or.inl ⟨by rfl, ?hy8⟩) (by assumption) ?rest8
  case hy8 => (intro W hSw; go_simp; first | done | with_reducible rfl)
  simp only [Act.put, List.getElem_toArray, List.getElem_cons_zero, List.getElem_cons_succ, List.setIfInBounds_toArray, List.set_cons_zero, List.set_cons_succ]
  refine wpAnyH_take (i := 9) (v := ?v9) rfl (by kernel_rfl) (by kernel_rfl) (by kernel_rfl) (fun _ _ _ h => h) (Or.inl ⟨by rfl, ?hy9⟩) (by assumption) ?rest9
  case hy9 => (intro W hSw; go_simp; first | done | with_reducible rfl)
  simp only [Act.put, List.getElem_toArray, List.getElem_cons_zero, List.getElem_cons_succ, List.setIfInBounds_toArray, List.set_cons_zero, List.set_cons_succ]
  refine wpAnyH_done (by kernel_rfl) ?_ _
  clear hHeld2
  go_wp2_with fail
  go_ret
  exact ⟨rfl, HB4.out⟩
set_option maxRecDepth 100000 in
set_option maxHeartbeats 4000000 in
theorem dck_3_false_true_true (head at_ steps moved from_ to_ left next : Nat) (w : World) (hs : steps ≤ 64) (hz : ¬ (from_ = 0 ∧ to_ = 0 ∧ left = 0 ∧ next = 0)) : Calls Tryd.prog 15 #[.agg #[.int .u32 3, .int .u32 (head : Nat), .int .u32 (at_ : Nat), .int .u32 (steps : Nat), .int .u32 (moved : Nat), .bool false, .int .u32 (from_ : Nat), .int .u32 (to_ : Nat), .int .u32 (left : Nat), .int .u32 (next : Nat), .bool true]] w fun e w' => e = .returned (errV 1) ∧ Below w.heap.size w w' := by
  have HW := Lib.hid (fun W => dma_without ⟨3, head, at_, steps, moved, false, from_, to_, left, next, true⟩ W)
  have hne : ∀ W, (binOp BinOp.neq 33 (.agg #[.int .u32 3, .int .u32 (head : Nat), .int .u32 (at_ : Nat), .int .u32 (steps : Nat), .int .u32 (moved : Nat), .bool false, .int .u32 (from_ : Nat), .int .u32 (to_ : Nat), .int .u32 (left : Nat), .int .u32 (next : Nat), .bool true]) (.agg #[.int .u32 3, .int .u32 (head : Nat), .int .u32 (at_ : Nat), .int .u32 (steps : Nat), .int .u32 (moved : Nat), .bool false, .int .u32 0, .int .u32 0, .int .u32 0, .int .u32 0, .bool true])).run Tryd.prog W = .ok (.bool true) W := fun W => by
    have h := dst_neq ⟨3, head, at_, steps, moved, false, from_, to_, left, next, true⟩ ⟨3, head, at_, steps, moved, false, 0, 0, 0, 0, true⟩ W
    rw [show (!decide ((⟨3, head, at_, steps, moved, false, from_, to_, left, next, true⟩ : Dst) = ⟨3, head, at_, steps, moved, false, 0, 0, 0, 0, true⟩)) = true from by rw [decide_eq_false (by intro e; simp only [Dst.mk.injEq, true_and, and_true] at e; exact hz ⟨by omega, by omega, by omega, by omega⟩)]; rfl] at h
    exact h
  simp only [Dst.c, Dst.without] at HW
  have b1 : decide ((64 : Int) < (steps : Int)) = false := by simp; omega
  clear hs hz
  have k0 := heap_alloc_new w (.cells #[.int .u32 3, .int .u32 (head : Nat), .int .u32 (at_ : Nat), .int .u32 (steps : Nat), .int .u32 (moved : Nat), .bool false, .int .u32 (from_ : Nat), .int .u32 (to_ : Nat), .int .u32 (left : Nat), .int .u32 (next : Nat), .bool true] 33)
  have hb0 := (Below.refl w.heap.size w).alloc (Nat.le_refl _) (.cells #[.int .u32 3, .int .u32 (head : Nat), .int .u32 (at_ : Nat), .int .u32 (steps : Nat), .int .u32 (moved : Nat), .bool false, .int .u32 (from_ : Nat), .int .u32 (to_ : Nat), .int .u32 (left : Nat), .int .u32 (next : Nat), .bool true] 33)
  have K0 := Lib.hid k0
  have HB0 := Lib.hid hb0
  clear k0 hb0
  go_enter Tryd.func15, Tryd.ntmps15
  go_upto_region 6 with fail
  refine wp_region_held_drew (S := fun W => KX (fun _ => False) (w.alloc (.cells #[.int .u32 3, .int .u32 (head : Nat), .int .u32 (at_ : Nat), .int .u32 (steps : Nat), .int .u32 (moved : Nat), .bool false, .int .u32 (from_ : Nat), .int .u32 (to_ : Nat), .int .u32 (left : Nat), .int .u32 (next : Nat), .bool true] 33)) W) (by kernel_rfl) ((KX.refl (fun _ => False) _).drew) (fun hHeld => ?_)
  refine wpAnyH_take (i := 0) (v := ?v0) rfl (by kernel_rfl) (by kernel_rfl) (by kernel_rfl) (fun _ _ _ h => h) (Or.inl ⟨by rfl, ?hy0⟩) (by assumption) ?rest0
  case hy0 => (intro W hSw; go_simp; first | done | with_reducible rfl)
  simp only [Act.put, List.getElem_toArray, List.getElem_cons_zero, List.setIfInBounds_toArray, List.set_cons_zero, List.set_cons_succ]
  refine wpAnyH_take (i := 1) (v := ?v1) rfl (by kernel_rfl) (by kernel_rfl) (by kernel_rfl) (fun _ _ _ h => h) (Or.inl ⟨by rfl, ?hy1⟩) (by assumption) ?rest1
  case hy1 => (intro W hSw; have cj := (cell_of_row _ _ 5 _ _ _ (hSw.heap K0.out id)).trans (rfl : _ = some (.bool false : Value)); go_simp; first | done | with_reducible rfl)
  simp only [Act.put, List.getElem_toArray, List.getElem_cons_zero, List.getElem_cons_succ, List.setIfInBounds_toArray, List.set_cons_zero, List.set_cons_succ]
  refine wpAnyH_take (i := 2) (v := ?v2) rfl (by kernel_rfl) (by kernel_rfl) (by kernel_rfl) (fun _ _ _ h => h) (Or.inl ⟨by rfl, ?hy2⟩) (by assumption) ?rest2
  case hy2 => (intro W hSw; go_simp; first | done | with_reducible rfl)
  simp only [Act.put, List.getElem_toArray, List.getElem_cons_zero, List.getElem_cons_succ, List.setIfInBounds_toArray, List.set_cons_zero, List.set_cons_succ]
  refine wpAnyH_take (i := 3) (v := ?v3) rfl (by kernel_rfl) (by kernel_rfl) (by kernel_rfl) (fun _ _ _ h => h) (Or.inl ⟨by rfl, ?hy3⟩) (by assumption) ?rest3
  case hy3 => (intro W hSw; go_simp; first | done | with_reducible rfl)
  simp only [Act.put, List.getElem_toArray, List.getElem_cons_zero, List.getElem_cons_succ, List.setIfInBounds_toArray, List.set_cons_zero, List.set_cons_succ]
  refine wpAnyH_take (i := 4) rfl (by kernel_rfl) (by kernel_rfl) (by kernel_rfl) (fun _ _ _ h => h) (yieldsIf_load_mid (by rfl) 33 _ rfl (w.heap.size) 0 rfl #[.int .u32 3, .int .u32 (head : Nat), .int .u32 (at_ : Nat), .int .u32 (steps : Nat), .int .u32 (moved : Nat), .bool false, .int .u32 (from_ : Nat), .int .u32 (to_ : Nat), .int .u32 (left : Nat), .int .u32 (next : Nat), .bool true].toList _ (fun W hSw => range_of_all (hSw.heap K0.out id)) Tryd.underlying33 rfl ?hi4) (by assumption) ?rest4
  case hi4 => kernel_rfl
  simp only [Act.put, List.getElem_toArray, List.getElem_cons_zero, List.getElem_cons_succ, List.setIfInBounds_toArray, List.set_cons_zero, List.set_cons_succ]
  refine wpAnyH_take (i := 5) rfl (by kernel_rfl) (by kernel_rfl) (by kernel_rfl) (fun _ _ _ h => h) (yieldsIf_load_mid (by rfl) 33 _ rfl (w.heap.size) 0 rfl #[.int .u32 3, .int .u32 (head : Nat), .int .u32 (at_ : Nat), .int .u32 (steps : Nat), .int .u32 (moved : Nat), .bool false, .int .u32 (from_ : Nat), .int .u32 (to_ : Nat), .int .u32 (left : Nat), .int .u32 (next : Nat), .bool true].toList _ (fun W hSw => range_of_all (hSw.heap K0.out id)) Tryd.underlying33 rfl ?hi5) (by assumption) ?rest5
  case hi5 => kernel_rfl
  simp only [Act.put, List.getElem_toArray, List.getElem_cons_zero, List.getElem_cons_succ, List.setIfInBounds_toArray, List.set_cons_zero, List.set_cons_succ]
  refine wpAnyH_ready (rs := [6]) (by kernel_rfl) (by simp) ?_
  refine AllReadyH.cons (o := _) rfl (fun K hK => ?_) (AllReadyH.nil)
  simp only [List.getElem_toArray, List.getElem_cons_zero, List.getElem_cons_succ]
  go_simp
  refine (HW.out _).mono ?_
  rintro e w1 ⟨rfl, hb⟩
  refine hK.out _ _ (hHeld.trans (KX.of_below (X := (fun _ => False)) hb) (fun _ _ h => h)) (fun hHeld2 => ?_)
  clear hK K
  have K3 := Lib.hid (keepB (a := (w.alloc (.cells #[.int .u32 3, .int .u32 (head : Nat), .int .u32 (at_ : Nat), .int .u32 (steps : Nat), .int .u32 (moved : Nat), .bool false, .int .u32 (from_ : Nat), .int .u32 (to_ : Nat), .int .u32 (left : Nat), .int .u32 (next : Nat), .bool true] 33)).drew) K0.out hb)
  have HB4 := Lib.hid ((HB0.out.drew).trans (hb.mono (HB0.out.drew).size))
  clear HB0
  clear hb
  refine wpAnyH_take (i := 7) (v := ?v7) rfl (by kernel_rfl) (by kernel_rfl) (by kernel_rfl) (fun _ _ _ h => h) (Or.inl ⟨by rfl, ?hy7⟩) (by assumption) ?rest7
  case hy7 => (intro W hSw; go_simp; first | done | with_reducible rfl)
  simp only [Act.put, List.getElem_toArray, List.getElem_cons_zero, List.getElem_cons_succ, List.setIfInBounds_toArray, List.set_cons_zero, List.set_cons_succ]
  refine wpAnyH_take (i := 8) (v := ?v8) rfl (by kernel_rfl) (by kernel_rfl) (by kernel_rfl) (fun _ _ _ h => h) (Or.inl ⟨by rfl, ?hy8⟩) (by assumption) ?rest8
  case hy8 => (intro W hSw; go_simp; first | done | with_reducible rfl)
  simp only [Act.put, List.getElem_toArray, List.getElem_cons_zero, List.getElem_cons_succ, List.setIfInBounds_toArray, List.set_cons_zero, List.set_cons_succ]
  refine wpAnyH_take (i := 9) (v := ?v9) rfl (by kernel_rfl) (by kernel_rfl) (by kernel_rfl) (fun _ _ _ h => h) (Or.inl ⟨by rfl, ?hy9⟩) (by assumption) ?rest9
  case hy9 => (intro W hSw; go_simp; first | done | with_reducible rfl)
  simp only [Act.put, List.getElem_toArray, List.getElem_cons_zero, List.getElem_cons_succ, List.setIfInBounds_toArray, List.set_cons_zero, List.set_cons_succ]
  refine wpAnyH_done (by kernel_rfl) ?_ _
  clear hHeld2
  go_wp2_with fail
  go_ret
  exact ⟨rfl, HB4.out⟩
set_option maxRecDepth 100000 in
set_option maxHeartbeats 4000000 in
theorem dck_3_false_true_false (head at_ steps moved from_ to_ left next : Nat) (w : World) (hs : steps ≤ 64) (hz : (from_ = 0 ∧ to_ = 0 ∧ left = 0 ∧ next = 0)) : Calls Tryd.prog 15 #[.agg #[.int .u32 3, .int .u32 (head : Nat), .int .u32 (at_ : Nat), .int .u32 (steps : Nat), .int .u32 (moved : Nat), .bool false, .int .u32 (from_ : Nat), .int .u32 (to_ : Nat), .int .u32 (left : Nat), .int .u32 (next : Nat), .bool true]] w fun e w' => e = .returned (.nilIface) ∧ Below w.heap.size w w' := by
  have HW := Lib.hid (fun W => dma_without ⟨3, head, at_, steps, moved, false, from_, to_, left, next, true⟩ W)
  have hne : ∀ W, (binOp BinOp.neq 33 (.agg #[.int .u32 3, .int .u32 (head : Nat), .int .u32 (at_ : Nat), .int .u32 (steps : Nat), .int .u32 (moved : Nat), .bool false, .int .u32 (from_ : Nat), .int .u32 (to_ : Nat), .int .u32 (left : Nat), .int .u32 (next : Nat), .bool true]) (.agg #[.int .u32 3, .int .u32 (head : Nat), .int .u32 (at_ : Nat), .int .u32 (steps : Nat), .int .u32 (moved : Nat), .bool false, .int .u32 0, .int .u32 0, .int .u32 0, .int .u32 0, .bool true])).run Tryd.prog W = .ok (.bool false) W := fun W => by
    have h := dst_neq ⟨3, head, at_, steps, moved, false, from_, to_, left, next, true⟩ ⟨3, head, at_, steps, moved, false, 0, 0, 0, 0, true⟩ W
    rw [show (!decide ((⟨3, head, at_, steps, moved, false, from_, to_, left, next, true⟩ : Dst) = ⟨3, head, at_, steps, moved, false, 0, 0, 0, 0, true⟩)) = false from by rw [decide_eq_true (by obtain ⟨rfl, rfl, rfl, rfl⟩ := hz; rfl)]; rfl] at h
    exact h
  simp only [Dst.c, Dst.without] at HW
  have b1 : decide ((64 : Int) < (steps : Int)) = false := by simp; omega
  clear hs hz
  have k0 := heap_alloc_new w (.cells #[.int .u32 3, .int .u32 (head : Nat), .int .u32 (at_ : Nat), .int .u32 (steps : Nat), .int .u32 (moved : Nat), .bool false, .int .u32 (from_ : Nat), .int .u32 (to_ : Nat), .int .u32 (left : Nat), .int .u32 (next : Nat), .bool true] 33)
  have hb0 := (Below.refl w.heap.size w).alloc (Nat.le_refl _) (.cells #[.int .u32 3, .int .u32 (head : Nat), .int .u32 (at_ : Nat), .int .u32 (steps : Nat), .int .u32 (moved : Nat), .bool false, .int .u32 (from_ : Nat), .int .u32 (to_ : Nat), .int .u32 (left : Nat), .int .u32 (next : Nat), .bool true] 33)
  have K0 := Lib.hid k0
  have HB0 := Lib.hid hb0
  clear k0 hb0
  go_enter Tryd.func15, Tryd.ntmps15
  go_upto_region 6 with fail
  refine wp_region_held_drew (S := fun W => KX (fun _ => False) (w.alloc (.cells #[.int .u32 3, .int .u32 (head : Nat), .int .u32 (at_ : Nat), .int .u32 (steps : Nat), .int .u32 (moved : Nat), .bool false, .int .u32 (from_ : Nat), .int .u32 (to_ : Nat), .int .u32 (left : Nat), .int .u32 (next : Nat), .bool true] 33)) W) (by kernel_rfl) ((KX.refl (fun _ => False) _).drew) (fun hHeld => ?_)
  refine wpAnyH_take (i := 0) (v := ?v0) rfl (by kernel_rfl) (by kernel_rfl) (by kernel_rfl) (fun _ _ _ h => h) (Or.inl ⟨by rfl, ?hy0⟩) (by assumption) ?rest0
  case hy0 => (intro W hSw; go_simp; first | done | with_reducible rfl)
  simp only [Act.put, List.getElem_toArray, List.getElem_cons_zero, List.setIfInBounds_toArray, List.set_cons_zero, List.set_cons_succ]
  refine wpAnyH_take (i := 1) (v := ?v1) rfl (by kernel_rfl) (by kernel_rfl) (by kernel_rfl) (fun _ _ _ h => h) (Or.inl ⟨by rfl, ?hy1⟩) (by assumption) ?rest1
  case hy1 => (intro W hSw; have cj := (cell_of_row _ _ 5 _ _ _ (hSw.heap K0.out id)).trans (rfl : _ = some (.bool false : Value)); go_simp; first | done | with_reducible rfl)
  simp only [Act.put, List.getElem_toArray, List.getElem_cons_zero, List.getElem_cons_succ, List.setIfInBounds_toArray, List.set_cons_zero, List.set_cons_succ]
  refine wpAnyH_take (i := 2) (v := ?v2) rfl (by kernel_rfl) (by kernel_rfl) (by kernel_rfl) (fun _ _ _ h => h) (Or.inl ⟨by rfl, ?hy2⟩) (by assumption) ?rest2
  case hy2 => (intro W hSw; go_simp; first | done | with_reducible rfl)
  simp only [Act.put, List.getElem_toArray, List.getElem_cons_zero, List.getElem_cons_succ, List.setIfInBounds_toArray, List.set_cons_zero, List.set_cons_succ]
  refine wpAnyH_take (i := 3) (v := ?v3) rfl (by kernel_rfl) (by kernel_rfl) (by kernel_rfl) (fun _ _ _ h => h) (Or.inl ⟨by rfl, ?hy3⟩) (by assumption) ?rest3
  case hy3 => (intro W hSw; go_simp; first | done | with_reducible rfl)
  simp only [Act.put, List.getElem_toArray, List.getElem_cons_zero, List.getElem_cons_succ, List.setIfInBounds_toArray, List.set_cons_zero, List.set_cons_succ]
  refine wpAnyH_take (i := 4) rfl (by kernel_rfl) (by kernel_rfl) (by kernel_rfl) (fun _ _ _ h => h) (yieldsIf_load_mid (by rfl) 33 _ rfl (w.heap.size) 0 rfl #[.int .u32 3, .int .u32 (head : Nat), .int .u32 (at_ : Nat), .int .u32 (steps : Nat), .int .u32 (moved : Nat), .bool false, .int .u32 (from_ : Nat), .int .u32 (to_ : Nat), .int .u32 (left : Nat), .int .u32 (next : Nat), .bool true].toList _ (fun W hSw => range_of_all (hSw.heap K0.out id)) Tryd.underlying33 rfl ?hi4) (by assumption) ?rest4
  case hi4 => kernel_rfl
  simp only [Act.put, List.getElem_toArray, List.getElem_cons_zero, List.getElem_cons_succ, List.setIfInBounds_toArray, List.set_cons_zero, List.set_cons_succ]
  refine wpAnyH_take (i := 5) rfl (by kernel_rfl) (by kernel_rfl) (by kernel_rfl) (fun _ _ _ h => h) (yieldsIf_load_mid (by rfl) 33 _ rfl (w.heap.size) 0 rfl #[.int .u32 3, .int .u32 (head : Nat), .int .u32 (at_ : Nat), .int .u32 (steps : Nat), .int .u32 (moved : Nat), .bool false, .int .u32 (from_ : Nat), .int .u32 (to_ : Nat), .int .u32 (left : Nat), .int .u32 (next : Nat), .bool true].toList _ (fun W hSw => range_of_all (hSw.heap K0.out id)) Tryd.underlying33 rfl ?hi5) (by assumption) ?rest5
  case hi5 => kernel_rfl
  simp only [Act.put, List.getElem_toArray, List.getElem_cons_zero, List.getElem_cons_succ, List.setIfInBounds_toArray, List.set_cons_zero, List.set_cons_succ]
  refine wpAnyH_ready (rs := [6]) (by kernel_rfl) (by simp) ?_
  refine AllReadyH.cons (o := _) rfl (fun K hK => ?_) (AllReadyH.nil)
  simp only [List.getElem_toArray, List.getElem_cons_zero, List.getElem_cons_succ]
  go_simp
  refine (HW.out _).mono ?_
  rintro e w1 ⟨rfl, hb⟩
  refine hK.out _ _ (hHeld.trans (KX.of_below (X := (fun _ => False)) hb) (fun _ _ h => h)) (fun hHeld2 => ?_)
  clear hK K
  have K3 := Lib.hid (keepB (a := (w.alloc (.cells #[.int .u32 3, .int .u32 (head : Nat), .int .u32 (at_ : Nat), .int .u32 (steps : Nat), .int .u32 (moved : Nat), .bool false, .int .u32 (from_ : Nat), .int .u32 (to_ : Nat), .int .u32 (left : Nat), .int .u32 (next : Nat), .bool true] 33)).drew) K0.out hb)
  have HB4 := Lib.hid ((HB0.out.drew).trans (hb.mono (HB0.out.drew).size))
  clear HB0
  clear hb
  refine wpAnyH_take (i := 7) (v := ?v7) rfl (by kernel_rfl) (by kernel_rfl) (by kernel_rfl) (fun _ _ _ h => h) (Or.inl ⟨by rfl, ?hy7⟩) (by assumption) ?rest7
  case hy7 => (intro W hSw; go_simp; first | done | with_reducible rfl)
  simp only [Act.put, List.getElem_toArray, List.getElem_cons_zero, List.getElem_cons_succ, List.setIfInBounds_toArray, List.set_cons_zero, List.set_cons_succ]
  refine wpAnyH_take (i := 8) (v := ?v8) rfl (by kernel_rfl) (by kernel_rfl) (by kernel_rfl) (fun _ _ _ h => h) (Or.inl ⟨by rfl, ?hy8⟩) (by assumption) ?rest8
  case hy8 => (intro W hSw; go_simp; first | done | with_reducible rfl)
  simp only [Act.put, List.getElem_toArray, List.getElem_cons_zero, List.getElem_cons_succ, List.setIfInBounds_toArray, List.set_cons_zero, List.set_cons_succ]
  refine wpAnyH_take (i := 9) (v := ?v9) rfl (by kernel_rfl) (by kernel_rfl) (by kernel_rfl) (fun _ _ _ h => h) (Or.inl ⟨by rfl, ?hy9⟩) (by assumption) ?rest9
  case hy9 => (intro W hSw; go_simp; first | done | with_reducible rfl)
  simp only [Act.put, List.getElem_toArray, List.getElem_cons_zero, List.getElem_cons_succ, List.setIfInBounds_toArray, List.set_cons_zero, List.set_cons_succ]
  refine wpAnyH_done (by kernel_rfl) ?_ _
  clear hHeld2
  go_wp2_with fail
  go_ret
  exact ⟨rfl, HB4.out⟩
set_option maxRecDepth 100000 in
set_option maxHeartbeats 4000000 in
theorem dck_3_false_false_true (head at_ steps moved from_ to_ left next : Nat) (w : World) (hs : steps ≤ 64) (hz : ¬ (from_ = 0 ∧ to_ = 0 ∧ left = 0 ∧ next = 0)) : Calls Tryd.prog 15 #[.agg #[.int .u32 3, .int .u32 (head : Nat), .int .u32 (at_ : Nat), .int .u32 (steps : Nat), .int .u32 (moved : Nat), .bool false, .int .u32 (from_ : Nat), .int .u32 (to_ : Nat), .int .u32 (left : Nat), .int .u32 (next : Nat), .bool false]] w fun e w' => e = .returned (errV 1) ∧ Below w.heap.size w w' := by
  have HW := Lib.hid (fun W => dma_without ⟨3, head, at_, steps, moved, false, from_, to_, left, next, false⟩ W)
  have hne : ∀ W, (binOp BinOp.neq 33 (.agg #[.int .u32 3, .int .u32 (head : Nat), .int .u32 (at_ : Nat), .int .u32 (steps : Nat), .int .u32 (moved : Nat), .bool false, .int .u32 (from_ : Nat), .int .u32 (to_ : Nat), .int .u32 (left : Nat), .int .u32 (next : Nat), .bool false]) (.agg #[.int .u32 3, .int .u32 (head : Nat), .int .u32 (at_ : Nat), .int .u32 (steps : Nat), .int .u32 (moved : Nat), .bool false, .int .u32 0, .int .u32 0, .int .u32 0, .int .u32 0, .bool false])).run Tryd.prog W = .ok (.bool true) W := fun W => by
    have h := dst_neq ⟨3, head, at_, steps, moved, false, from_, to_, left, next, false⟩ ⟨3, head, at_, steps, moved, false, 0, 0, 0, 0, false⟩ W
    rw [show (!decide ((⟨3, head, at_, steps, moved, false, from_, to_, left, next, false⟩ : Dst) = ⟨3, head, at_, steps, moved, false, 0, 0, 0, 0, false⟩)) = true from by rw [decide_eq_false (by intro e; simp only [Dst.mk.injEq, true_and, and_true] at e; exact hz ⟨by omega, by omega, by omega, by omega⟩)]; rfl] at h
    exact h
  simp only [Dst.c, Dst.without] at HW
  have b1 : decide ((64 : Int) < (steps : Int)) = false := by simp; omega
  clear hs hz
  have k0 := heap_alloc_new w (.cells #[.int .u32 3, .int .u32 (head : Nat), .int .u32 (at_ : Nat), .int .u32 (steps : Nat), .int .u32 (moved : Nat), .bool false, .int .u32 (from_ : Nat), .int .u32 (to_ : Nat), .int .u32 (left : Nat), .int .u32 (next : Nat), .bool false] 33)
  have hb0 := (Below.refl w.heap.size w).alloc (Nat.le_refl _) (.cells #[.int .u32 3, .int .u32 (head : Nat), .int .u32 (at_ : Nat), .int .u32 (steps : Nat), .int .u32 (moved : Nat), .bool false, .int .u32 (from_ : Nat), .int .u32 (to_ : Nat), .int .u32 (left : Nat), .int .u32 (next : Nat), .bool false] 33)
  have K0 := Lib.hid k0
  have HB0 := Lib.hid hb0
  clear k0 hb0
  go_enter Tryd.func15, Tryd.ntmps15
  go_upto_region 6 with fail
  refine wp_region_held_drew (S := fun W => KX (fun _ => False) (w.alloc (.cells #[.int .u32 3, .int .u32 (head : Nat), .int .u32 (at_ : Nat), .int .u32 (steps : Nat), .int .u32 (moved : Nat), .bool false, .int .u32 (from_ : Nat), .int .u32 (to_ : Nat), .int .u32 (left : Nat), .int .u32 (next : Nat), .bool false] 33)) W) (by kernel_rfl) ((KX.refl (fun _ => False) _).drew) (fun hHeld => ?_)
  refine wpAnyH_take (i := 0) (v := ?v0) rfl (by kernel_rfl) (by kernel_rfl) (by kernel_rfl) (fun _ _ _ h => h) (Or.inl ⟨by rfl, ?hy0⟩) (by assumption) ?rest0
  case hy0 => (intro W hSw; go_simp; first | done | with_reducible rfl)
  simp only [Act.put, List.getElem_toArray, List.getElem_cons_zero, List.setIfInBounds_toArray, List.set_cons_zero, List.set_cons_succ]
  refine wpAnyH_take (i := 1) (v := ?v1) rfl (by kernel_rfl) (by kernel_rfl) (by kernel_rfl) (fun _ _ _ h => h) (Or.inl ⟨by rfl, ?hy1⟩) (by assumption) ?rest1
  case hy1 => (intro W hSw; have cj := (cell_of_row _ _ 5 _ _ _ (hSw.heap K0.out id)).trans (rfl : _ = some (.bool false : Value)); go_simp; first | done | with_reducible rfl)
  simp only [Act.put, List.getElem_toArray, List.getElem_cons_zero, List.getElem_cons_succ, List.setIfInBounds_toArray, List.set_cons_zero, List.set_cons_succ]
  refine wpAnyH_take (i := 2) (v := ?v2) rfl (by kernel_rfl) (by kernel_rfl) (by kernel_rfl) (fun _ _ _ h => h) (Or.inl ⟨by rfl, ?hy2⟩) (by assumption) ?rest2
  case hy2 => (intro W hSw; go_simp; first | done | with_reducible rfl)
  simp only [Act.put, List.getElem_toArray, List.getElem_cons_zero, List.getElem_cons_succ, List.setIfInBounds_toArray, List.set_cons_zero, List.set_cons_succ]
  refine wpAnyH_take (i := 3) (v := ?v3) rfl (by kernel_rfl) (by kernel_rfl) (by kernel_rfl) (fun _ _ _ h => h) (Or.inl ⟨by rfl, ?hy3⟩) (by assumption) ?rest3
  case hy3 => (intro W hSw; go_simp; first | done | with_reducible rfl)
  simp only [Act.put, List.getElem_toArray, List.getElem_cons_zero, List.getElem_cons_succ, List.setIfInBounds_toArray, List.set_cons_zero, List.set_cons_succ]
  refine wpAnyH_take (i := 4) rfl (by kernel_rfl) (by kernel_rfl) (by kernel_rfl) (fun _ _ _ h => h) (yieldsIf_load_mid (by rfl) 33 _ rfl (w.heap.size) 0 rfl #[.int .u32 3, .int .u32 (head : Nat), .int .u32 (at_ : Nat), .int .u32 (steps : Nat), .int .u32 (moved : Nat), .bool false, .int .u32 (from_ : Nat), .int .u32 (to_ : Nat), .int .u32 (left : Nat), .int .u32 (next : Nat), .bool false].toList _ (fun W hSw => range_of_all (hSw.heap K0.out id)) Tryd.underlying33 rfl ?hi4) (by assumption) ?rest4
  case hi4 => kernel_rfl
  simp only [Act.put, List.getElem_toArray, List.getElem_cons_zero, List.getElem_cons_succ, List.setIfInBounds_toArray, List.set_cons_zero, List.set_cons_succ]
  refine wpAnyH_take (i := 5) rfl (by kernel_rfl) (by kernel_rfl) (by kernel_rfl) (fun _ _ _ h => h) (yieldsIf_load_mid (by rfl) 33 _ rfl (w.heap.size) 0 rfl #[.int .u32 3, .int .u32 (head : Nat), .int .u32 (at_ : Nat), .int .u32 (steps : Nat), .int .u32 (moved : Nat), .bool false, .int .u32 (from_ : Nat), .int .u32 (to_ : Nat), .int .u32 (left : Nat), .int .u32 (next : Nat), .bool false].toList _ (fun W hSw => range_of_all (hSw.heap K0.out id)) Tryd.underlying33 rfl ?hi5) (by assumption) ?rest5
  case hi5 => kernel_rfl
  simp only [Act.put, List.getElem_toArray, List.getElem_cons_zero, List.getElem_cons_succ, List.setIfInBounds_toArray, List.set_cons_zero, List.set_cons_succ]
  refine wpAnyH_ready (rs := [6]) (by kernel_rfl) (by simp) ?_
  refine AllReadyH.cons (o := _) rfl (fun K hK => ?_) (AllReadyH.nil)
  simp only [List.getElem_toArray, List.getElem_cons_zero, List.getElem_cons_succ]
  go_simp
  refine (HW.out _).mono ?_
  rintro e w1 ⟨rfl, hb⟩
  refine hK.out _ _ (hHeld.trans (KX.of_below (X := (fun _ => False)) hb) (fun _ _ h => h)) (fun hHeld2 => ?_)
  clear hK K
  have K3 := Lib.hid (keepB (a := (w.alloc (.cells #[.int .u32 3, .int .u32 (head : Nat), .int .u32 (at_ : Nat), .int .u32 (steps : Nat), .int .u32 (moved : Nat), .bool false, .int .u32 (from_ : Nat), .int .u32 (to_ : Nat), .int .u32 (left : Nat), .int .u32 (next : Nat), .bool false] 33)).drew) K0.out hb)
  have HB4 := Lib.hid ((HB0.out.drew).trans (hb.mono (HB0.out.drew).size))
  clear HB0
  clear hb
  refine wpAnyH_take (i := 7) (v := ?v7) rfl (by kernel_rfl) (by kernel_rfl) (by kernel_rfl) (fun _ _ _ h => h) (Or.inl ⟨by rfl, ?hy7⟩) (by assumption) ?rest7
  case hy7 => (intro W hSw; go_simp; first | done | with_reducible rfl)
  simp only [Act.put, List.getElem_toArray, List.getElem_cons_zero, List.getElem_cons_succ, List.setIfInBounds_toArray, List.set_cons_zero, List.set_cons_succ]
  refine wpAnyH_take (i := 8) (v := ?v8) rfl (by kernel_rfl) (by kernel_rfl) (by kernel_rfl) (fun _ _ _ h => h) (Or.inl ⟨by rfl, ?hy8⟩) (by assumption) ?rest8
  case hy8 => (intro W hSw; go_simp; first | done | with_reducible rfl)
  simp only [Act.put, List.getElem_toArray, List.getElem_cons_zero, List.getElem_cons_succ, List.setIfInBounds_toArray, List.set_cons_zero, List.set_cons_succ]
  refine wpAnyH_take (i := 9) (v := ?v9) rfl (by kernel_rfl) (by kernel_rfl) (by kernel_rfl) (fun _ _ _ h => h) (Or.inl ⟨by rfl, ?hy9⟩) (by assumption) ?rest9
  case hy9 => (intro W hSw; go_simp; first | done | with_reducible rfl)
  simp only [Act.put, List.getElem_toArray, List.getElem_cons_zero, List.getElem_cons_succ, List.setIfInBounds_toArray, List.set_cons_zero, List.set_cons_succ]
  refine wpAnyH_done (by kernel_rfl) ?_ _
  clear hHeld2
  go_wp2_with fail
  go_ret
  exact ⟨rfl, HB4.out⟩
set_option maxRecDepth 100000 in
set_option maxHeartbeats 4000000 in
theorem dck_3_false_false_false (head at_ steps moved from_ to_ left next : Nat) (w : World) (hs : steps ≤ 64) (hz : (from_ = 0 ∧ to_ = 0 ∧ left = 0 ∧ next = 0)) : Calls Tryd.prog 15 #[.agg #[.int .u32 3, .int .u32 (head : Nat), .int .u32 (at_ : Nat), .int .u32 (steps : Nat), .int .u32 (moved : Nat), .bool false, .int .u32 (from_ : Nat), .int .u32 (to_ : Nat), .int .u32 (left : Nat), .int .u32 (next : Nat), .bool false]] w fun e w' => e = .returned (.nilIface) ∧ Below w.heap.size w w' := by
  have HW := Lib.hid (fun W => dma_without ⟨3, head, at_, steps, moved, false, from_, to_, left, next, false⟩ W)
  have hne : ∀ W, (binOp BinOp.neq 33 (.agg #[.int .u32 3, .int .u32 (head : Nat), .int .u32 (at_ : Nat), .int .u32 (steps : Nat), .int .u32 (moved : Nat), .bool false, .int .u32 (from_ : Nat), .int .u32 (to_ : Nat), .int .u32 (left : Nat), .int .u32 (next : Nat), .bool false]) (.agg #[.int .u32 3, .int .u32 (head : Nat), .int .u32 (at_ : Nat), .int .u32 (steps : Nat), .int .u32 (moved : Nat), .bool false, .int .u32 0, .int .u32 0, .int .u32 0, .int .u32 0, .bool false])).run Tryd.prog W = .ok (.bool false) W := fun W => by
    have h := dst_neq ⟨3, head, at_, steps, moved, false, from_, to_, left, next, false⟩ ⟨3, head, at_, steps, moved, false, 0, 0, 0, 0, false⟩ W
    rw [show (!decide ((⟨3, head, at_, steps, moved, false, from_, to_, left, next, false⟩ : Dst) = ⟨3, head, at_, steps, moved, false, 0, 0, 0, 0, false⟩)) = false from by rw [decide_eq_true (by obtain ⟨rfl, rfl, rfl, rfl⟩ := hz; rfl)]; rfl] at h
    exact h
  simp only [Dst.c, Dst.without] at HW
  have b1 : decide ((64 : Int) < (steps : Int)) = false := by simp; omega
  clear hs hz
  have k0 := heap_alloc_new w (.cells #[.int .u32 3, .int .u32 (head : Nat), .int .u32 (at_ : Nat), .int .u32 (steps : Nat), .int .u32 (moved : Nat), .bool false, .int .u32 (from_ : Nat), .int .u32 (to_ : Nat), .int .u32 (left : Nat), .int .u32 (next : Nat), .bool false] 33)
  have hb0 := (Below.refl w.heap.size w).alloc (Nat.le_refl _) (.cells #[.int .u32 3, .int .u32 (head : Nat), .int .u32 (at_ : Nat), .int .u32 (steps : Nat), .int .u32 (moved : Nat), .bool false, .int .u32 (from_ : Nat), .int .u32 (to_ : Nat), .int .u32 (left : Nat), .int .u32 (next : Nat), .bool false] 33)
  have K0 := Lib.hid k0
  have HB0 := Lib.hid hb0
  clear k0 hb0
  go_enter Tryd.func15, Tryd.ntmps15
  go_upto_region 6 with fail
  refine wp_region_held_drew (S := fun W => KX (fun _ => False) (w.alloc (.cells #[.int .u32 3, .int .u32 (head : Nat), .int .u32 (at_ : Nat), .int .u32 (steps : Nat), .int .u32 (moved : Nat), .bool false, .int .u32 (from_ : Nat), .int .u32 (to_ : Nat), .int .u32 (left : Nat), .int .u32 (next : Nat), .bool false] 33)) W) (by kernel_rfl) ((KX.refl (fun _ => False) _).drew) (fun hHeld => ?_)
  refine wpAnyH_take (i := 0) (v := ?v0) rfl (by kernel_rfl) (by kernel_rfl) (by kernel_rfl) (fun _ _ _ h => h) (Or.inl ⟨by rfl, ?hy0⟩) (by assumption) ?rest0
  case hy0 => (intro W hSw; go_simp; first | done | with_reducible rfl)
  simp only [Act.put, List.getElem_toArray, List.getElem_cons_zero, List.setIfInBounds_toArray, List.set_cons_zero, List.set_cons_succ]
  refine wpAnyH_take (i := 1) (v := ?v1) rfl (by kernel_rfl) (by kernel_rfl) (by kernel_rfl) (fun _ _ _ h => h) (Or.inl ⟨by rfl, ?hy1⟩) (by assumption) ?rest1
  case hy1 => (intro W hSw; have cj := (cell_of_row _ _ 5 _ _ _ (hSw.heap K0.out id)).trans (rfl : _ = some (.bool false : Value)); go_simp; first | done | with_reducible rfl)
  simp only [Act.put, List.getElem_toArray, List.getElem_cons_zero, List.getElem_cons_succ, List.setIfInBounds_toArray, List.set_cons_zero, List.set_cons_succ]
  refine wpAnyH_take (i := 2) (v := ?v2) rfl (by kernel_rfl) (by kernel_rfl) (by kernel_rfl) (fun _ _ _ h => h) (Or.inl ⟨by rfl, ?hy2⟩) (by assumption) ?rest2
  case hy2 => (intro W hSw; go_simp; first | done | with_reducible rfl)
  simp only [Act.put, List.getElem_toArray, List.getElem_cons_zero, List.getElem_cons_succ, List.setIfInBounds_toArray, List.set_cons_zero, List.set_cons_succ]
  refine wpAnyH_take (i := 3) (v := ?v3) rfl (by kernel_rfl) (by kernel_rfl) (by kernel_rfl) (fun _ _ _ h => h) (Or.inl ⟨by rfl, ?hy3⟩) (by assumption) ?rest3
  case hy3 => (intro W hSw; go_simp; first | done | with_reducible rfl)
  simp only [Act.put, List.getElem_toArray, List.getElem_cons_zero, List.getElem_cons_succ, List.setIfInBounds_toArray, List.set_cons_zero, List.set_cons_succ]
  refine wpAnyH_take (i := 4) rfl (by kernel_rfl) (by kernel_rfl) (by kernel_rfl) (fun _ _ _ h => h) (yieldsIf_load_mid (by rfl) 33 _ rfl (w.heap.size) 0 rfl #[.int .u32 3, .int .u32 (head : Nat), .int .u32 (at_ : Nat), .int .u32 (steps : Nat), .int .u32 (moved : Nat), .bool false, .int .u32 (from_ : Nat), .int .u32 (to_ : Nat), .int .u32 (left : Nat), .int .u32 (next : Nat), .bool false].toList _ (fun W hSw => range_of_all (hSw.heap K0.out id)) Tryd.underlying33 rfl ?hi4) (by assumption) ?rest4
  case hi4 => kernel_rfl
  simp only [Act.put, List.getElem_toArray, List.getElem_cons_zero, List.getElem_cons_succ, List.setIfInBounds_toArray, List.set_cons_zero, List.set_cons_succ]
  refine wpAnyH_take (i := 5) rfl (by kernel_rfl) (by kernel_rfl) (by kernel_rfl) (fun _ _ _ h => h) (yieldsIf_load_mid (by rfl) 33 _ rfl (w.heap.size) 0 rfl #[.int .u32 3, .int .u32 (head : Nat), .int .u32 (at_ : Nat), .int .u32 (steps : Nat), .int .u32 (moved : Nat), .bool false, .int .u32 (from_ : Nat), .int .u32 (to_ : Nat), .int .u32 (left : Nat), .int .u32 (next : Nat), .bool false].toList _ (fun W hSw => range_of_all (hSw.heap K0.out id)) Tryd.underlying33 rfl ?hi5) (by assumption) ?rest5
  case hi5 => kernel_rfl
  simp only [Act.put, List.getElem_toArray, List.getElem_cons_zero, List.getElem_cons_succ, List.setIfInBounds_toArray, List.set_cons_zero, List.set_cons_succ]
  refine wpAnyH_ready (rs := [6]) (by kernel_rfl) (by simp) ?_
  refine AllReadyH.cons (o := _) rfl (fun K hK => ?_) (AllReadyH.nil)
  simp only [List.getElem_toArray, List.getElem_cons_zero, List.getElem_cons_succ]
  go_simp
  refine (HW.out _).mono ?_
  rintro e w1 ⟨rfl, hb⟩
  refine hK.out _ _ (hHeld.trans (KX.of_below (X := (fun _ => False)) hb) (fun _ _ h => h)) (fun hHeld2 => ?_)
  clear hK K
  have K3 := Lib.hid (keepB (a := (w.alloc (.cells #[.int .u32 3, .int .u32 (head : Nat), .int .u32 (at_ : Nat), .int .u32 (steps : Nat), .int .u32 (moved : Nat), .bool false, .int .u32 (from_ : Nat), .int .u32 (to_ : Nat), .int .u32 (left : Nat), .int .u32 (next : Nat), .bool false] 33)).drew) K0.out hb)
  have HB4 := Lib.hid ((HB0.out.drew).trans (hb.mono (HB0.out.drew).size))
  clear HB0
  clear hb
  refine wpAnyH_take (i := 7) (v := ?v7) rfl (by kernel_rfl) (by kernel_rfl) (by kernel_rfl) (fun _ _ _ h => h) (Or.inl ⟨by rfl, ?hy7⟩) (by assumption) ?rest7
  case hy7 => (intro W hSw; go_simp; first | done | with_reducible rfl)
  simp only [Act.put, List.getElem_toArray, List.getElem_cons_zero, List.getElem_cons_succ, List.setIfInBounds_toArray, List.set_cons_zero, List.set_cons_succ]
  refine wpAnyH_take (i := 8) (v := ?v8) rfl (by kernel_rfl) (by kernel_rfl) (by kernel_rfl) (fun _ _ _ h => h) (Or.inl ⟨by rfl, ?hy8⟩) (by assumption) ?rest8
  case hy8 => (intro W hSw; go_simp; first | done | with_reducible rfl)
  simp only [Act.put, List.getElem_toArray, List.getElem_cons_zero, List.getElem_cons_succ, List.setIfInBounds_toArray, List.set_cons_zero, List.set_cons_succ]
  refine wpAnyH_take (i := 9) (v := ?v9) rfl (by kernel_rfl) (by kernel_rfl) (by kernel_rfl) (fun _ _ _ h => h) (Or.inl ⟨by rfl, ?hy9⟩) (by assumption) ?rest9
  case hy9 => (intro W hSw; go_simp; first | done | with_reducible rfl)
  simp only [Act.put, List.getElem_toArray, List.getElem_cons_zero, List.getElem_cons_succ, List.setIfInBounds_toArray, List.set_cons_zero, List.set_cons_succ]
  refine wpAnyH_done (by kernel_rfl) ?_ _
  clear hHeld2
  go_wp2_with fail
  go_ret
  exact ⟨rfl, HB4.out⟩

/-- Check of any state. -/
theorem dma_Check (s : Dst) (w : World) : Calls Tryd.prog 15 #[.agg s.c] w fun e w' => e = .returned (if s.okP then .nilIface else errV 1) ∧ Below w.heap.size w w' := by
  obtain ⟨code, head, at_, steps, moved, have_, from_, to_, left, next, asks⟩ := s
  have hcase : code = 0 ∨ code = 1 ∨ code = 2 ∨ code = 3 ∨ 3 < code := by omega
  rcases hcase with rfl | rfl | rfl | rfl | h3
  case inr.inr.inr.inr =>
    rw [if_neg (fun h => by have := h.c; simp at this; omega)]
    cases have_ <;> cases asks
    · exact dck_big_false_false _ _ _ _ _ _ _ _ _ w h3
    · exact dck_big_false_true _ _ _ _ _ _ _ _ _ w h3
    · exact dck_big_true_false _ _ _ _ _ _ _ _ _ w h3
    · exact dck_big_true_true _ _ _ _ _ _ _ _ _ w h3
  case inl =>
    cases have_ <;> cases asks
    · by_cases hs : 64 < steps
      · rw [if_neg (fun h => by have := h.st; simp at this; omega)]
        exact dck_0_false_false_st _ _ _ _ _ _ _ _ w hs
      · by_cases hz : from_ = 0 ∧ to_ = 0 ∧ left = 0 ∧ next = 0
        · rw [if_pos ⟨by simp, by simp, by simp, by simp; omega, by simp, fun _ => hz⟩]
          exact dck_0_false_false_false _ _ _ _ _ _ _ _ w (Nat.le_of_not_lt hs) hz
        · rw [if_neg (fun h => hz (h.z rfl))]
          exact dck_0_false_false_true _ _ _ _ _ _ _ _ w (Nat.le_of_not_lt hs) hz
    · rw [if_neg (fun h => by obtain ⟨_, h2, h3, _, _, _⟩ := h; simp at h2 h3)]
      exact dck_0_false_true _ _ _ _ _ _ _ _ w
    · rw [if_neg (fun h => by obtain ⟨_, h2, h3, _, _, _⟩ := h; simp at h2 h3)]
      exact dck_0_true_false _ _ _ _ _ _ _ _ w
    · rw [if_neg (fun h => by obtain ⟨_, h2, h3, _, _, _⟩ := h; simp at h2 h3)]
      exact dck_0_true_true _ _ _ _ _ _ _ _ w
  case inr.inl =>
    cases have_ <;> cases asks
    · by_cases hs : 64 < steps
      · rw [if_neg (fun h => by have := h.st; simp at this; omega)]
        exact dck_1_false_false_st _ _ _ _ _ _ _ _ w hs
      · by_cases hz : from_ = 0 ∧ to_ = 0 ∧ left = 0 ∧ next = 0
        · rw [if_pos ⟨by simp, by simp, by simp, by simp; omega, by simp, fun _ => hz⟩]
          exact dck_1_false_false_false _ _ _ _ _ _ _ _ w (Nat.le_of_not_lt hs) hz
        · rw [if_neg (fun h => hz (h.z rfl))]
          exact dck_1_false_false_true _ _ _ _ _ _ _ _ w (Nat.le_of_not_lt hs) hz
    · rw [if_neg (fun h => by obtain ⟨_, h2, h3, _, _, _⟩ := h; simp at h2 h3)]
      exact dck_1_false_true _ _ _ _ _ _ _ _ w
    · by_cases hs : 64 < steps
      · rw [if_neg (fun h => by have := h.st; simp at this; omega)]
        exact dck_1_true_false_st _ _ _ _ _ _ _ _ w hs
      · by_cases hl : left = 0
        · rw [if_neg (fun h => by have := h.l rfl; simp at this; omega)]
          exact dck_1_true_false_l0 _ _ _ _ _ _ _ _ w (Nat.le_of_not_lt hs) hl
        · by_cases hm : 65536 < left
          · rw [if_neg (fun h => by have := h.l rfl; simp at this; omega)]
            exact dck_1_true_false_lb _ _ _ _ _ _ _ _ w (Nat.le_of_not_lt hs) hm
          · rw [if_pos ⟨by simp, by simp, by simp, by simp; omega, by intro _; simp; omega, by simp⟩]
            exact dck_1_true_false_ok _ _ _ _ _ _ _ _ w (Nat.le_of_not_lt hs) (Nat.pos_of_ne_zero hl) (Nat.le_of_not_lt hm)
    · rw [if_neg (fun h => by obtain ⟨_, h2, h3, _, _, _⟩ := h; simp at h2 h3)]
      exact dck_1_true_true _ _ _ _ _ _ _ _ w
  case inr.inr.inl =>
    cases have_ <;> cases asks
    · by_cases hs : 64 < steps
      · rw [if_neg (fun h => by have := h.st; simp at this; omega)]
        exact dck_2_false_false_st _ _ _ _ _ _ _ _ w hs
      · by_cases hz : from_ = 0 ∧ to_ = 0 ∧ left = 0 ∧ next = 0
        · rw [if_pos ⟨by simp, by simp, by simp, by simp; omega, by simp, fun _ => hz⟩]
          exact dck_2_false_false_false _ _ _ _ _ _ _ _ w (Nat.le_of_not_lt hs) hz
        · rw [if_neg (fun h => hz (h.z rfl))]
          exact dck_2_false_false_true _ _ _ _ _ _ _ _ w (Nat.le_of_not_lt hs) hz
    · by_cases hs : 64 < steps
      · rw [if_neg (fun h => by have := h.st; simp at this; omega)]
        exact dck_2_false_true_st _ _ _ _ _ _ _ _ w hs
      · by_cases hz : from_ = 0 ∧ to_ = 0 ∧ left = 0 ∧ next = 0
        · rw [if_pos ⟨by simp, by simp, by simp, by simp; omega, by simp, fun _ => hz⟩]
          exact dck_2_false_true_false _ _ _ _ _ _ _ _ w (Nat.le_of_not_lt hs) hz
        · rw [if_neg (fun h => hz (h.z rfl))]
          exact dck_2_false_true_true _ _ _ _ _ _ _ _ w (Nat.le_of_not_lt hs) hz
    · rw [if_neg (fun h => by obtain ⟨_, h2, h3, _, _, _⟩ := h; simp at h2 h3)]
      exact dck_2_true_false _ _ _ _ _ _ _ _ w
    · rw [if_neg (fun h => by obtain ⟨_, h2, h3, _, _, _⟩ := h; simp at h2 h3)]
      exact dck_2_true_true _ _ _ _ _ _ _ _ w
  case inr.inr.inr.inl =>
    cases have_ <;> cases asks
    · by_cases hs : 64 < steps
      · rw [if_neg (fun h => by have := h.st; simp at this; omega)]
        exact dck_3_false_false_st _ _ _ _ _ _ _ _ w hs
      · by_cases hz : from_ = 0 ∧ to_ = 0 ∧ left = 0 ∧ next = 0
        · rw [if_pos ⟨by simp, by simp, by simp, by simp; omega, by simp, fun _ => hz⟩]
          exact dck_3_false_false_false _ _ _ _ _ _ _ _ w (Nat.le_of_not_lt hs) hz
        · rw [if_neg (fun h => hz (h.z rfl))]
          exact dck_3_false_false_true _ _ _ _ _ _ _ _ w (Nat.le_of_not_lt hs) hz
    · by_cases hs : 64 < steps
      · rw [if_neg (fun h => by have := h.st; simp at this; omega)]
        exact dck_3_false_true_st _ _ _ _ _ _ _ _ w hs
      · by_cases hz : from_ = 0 ∧ to_ = 0 ∧ left = 0 ∧ next = 0
        · rw [if_pos ⟨by simp, by simp, by simp, by simp; omega, by simp, fun _ => hz⟩]
          exact dck_3_false_true_false _ _ _ _ _ _ _ _ w (Nat.le_of_not_lt hs) hz
        · rw [if_neg (fun h => hz (h.z rfl))]
          exact dck_3_false_true_true _ _ _ _ _ _ _ _ w (Nat.le_of_not_lt hs) hz
    · rw [if_neg (fun h => by obtain ⟨_, h2, h3, _, _, _⟩ := h; simp at h2 h3)]
      exact dck_3_true_false _ _ _ _ _ _ _ _ w
    · rw [if_neg (fun h => by obtain ⟨_, h2, h3, _, _, _⟩ := h; simp at h2 h3)]
      exact dck_3_true_true _ _ _ _ _ _ _ _ w
end Go.Proofs.YtcakcfeipfjmpaaDoor
