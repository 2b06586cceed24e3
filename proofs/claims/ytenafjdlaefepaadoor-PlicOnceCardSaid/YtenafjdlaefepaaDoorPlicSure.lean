/-
pinnacelaw09's sure, walked: it answers true.
Condition: math/bits' table reads as its text lays it.
-/
import Derived.Test.YtenafjdlaefepaaDoorPlicRead
import Derived.Outline
namespace Go.Proofs.YtenafjdlaefepaaDoor
open Go.RowKit

def sure0 : PS := ⟨0, 3, 5, 0, 0, 0, 0, 0, 6, 0, 0, 0⟩
def sure1 : PS := ⟨0, 3, 5, 0, 0, 0, 0, 0, 6, 0, 6, 0⟩
def sure2 : PS := ⟨0, 3, 5, 0, 0, 0, 0, 0, 6, 0, 2, 4⟩
theorem sure0_wf : sure0.wf := ⟨by decide, by decide, by decide, by decide, by decide, by decide, by decide, by decide, by decide, by decide, by decide, by decide⟩
theorem sure1_wf : sure1.wf := ⟨by decide, by decide, by decide, by decide, by decide, by decide, by decide, by decide, by decide, by decide, by decide, by decide⟩
theorem sure2_wf : sure2.wf := ⟨by decide, by decide, by decide, by decide, by decide, by decide, by decide, by decide, by decide, by decide, by decide, by decide⟩
theorem sure_level : ({ sure0 with pe := levelN sure0.pe sure0.bu 6 } : PS) = sure1 := by
  have : levelN sure0.pe sure0.bu 6 = 6 := by decide +kernel
  rw [this]; rfl
theorem sure_best1 : sure1.best = 2 := by decide +kernel
theorem sure_best2 : sure2.best = 1 := by decide +kernel
theorem sure_claim : sure1.claim = sure2 := by
  unfold PS.claim
  rw [sure_best1]
  have h1 : sure1.pe &&& (4294967295 - 2 ^ 2) = 2 := by decide +kernel
  have h2 : sure1.bu ||| 2 ^ 2 = 4 := by decide +kernel
  rw [if_neg (by decide), h1, h2]; rfl
theorem sure_calls0 (w : World) : Calls Tryd.prog 13 #[sure0.v, .int .u32 6] w fun e w' => e = .returned sure1.v ∧ Below w.heap.size w w' := by
  have h := plic_Level sure0 6 sure0_wf (by decide) w
  rw [sure_level] at h
  exact h
theorem sure_calls1 (w : World) (ht : Tab32 w) : Calls Tryd.prog 18 #[sure1.v, .int .u32 2097156] w fun e w' => e = .returned (.tuple #[sure2.v, .int .u32 2, .nilIface]) ∧ Below w.heap.size w w' := by
  have h := plic_claim sure1 sure1_wf w ht
  rw [sure_claim, sure_best1] at h
  exact h
theorem sure_calls2 (w : World) (ht : Tab32 w) : Calls Tryd.prog 16 #[sure2.v] w fun e w' => e = .returned (.int .i64 1) ∧ Below w.heap.size w w' := by
  have h := plic_Best sure2 sure2_wf w ht
  rw [sure_best2] at h
  exact h

set_option maxRecDepth 100000 in
set_option maxHeartbeats 1000000 in
theorem law9_sure (w : World) (ht : Tab32 w) :
    Calls Tryd.prog 15 #[] w fun e w' => e = .returned (.bool true) ∧ Below w.heap.size w w' := by
  have HT := Lib.hid ht
  clear ht
  go_enter Tryd.func15, Tryd.ntmps15
  go_wp2_with fail
  refine (sure_calls0 _).mono ?_
  rintro e w1 ⟨rfl, hb1⟩
  have HZ : Hid (w1.heap[w.heap.size]? = some (.cells sure0.c 26 (0, 0))) := Lib.hid ((hb1.block _ (by simp)).trans (heap_alloc_new _ _))
  have HBL := Lib.hid (((Below.refl w.heap.size w).alloc (Nat.le_refl _) _).trans (hb1.mono (by simp)))
  clear hb1
  have HL := Lib.hid (setRow_heap w1 w.heap.size sure0.c sure1.c 26 (0, 0) HZ.out)
  have HB2 := Lib.hid (below_setRow (g := w.heap.size) HBL.out (Nat.le_refl _) sure1.c)
  go_wp2_with (first | (refine wpList_store_row rfl 26 _ _ rfl w.heap.size sure1.c rfl rfl 26 sure0.c HZ.out (by kernel_rfl) rfl (PS.c_one _) ?_) | (refine wpList_load_row rfl 26 _ rfl w.heap.size rfl 26 sure1.c (0, 0) _ HL.out Tryd.underlying26 rfl (by kernel_rfl) ?_))
  refine (sure_calls1 _ (HT.out.below HB2.out)).mono ?_
  rintro e w2 ⟨rfl, hb2⟩
  have hlt : w.heap.size < w1.heap.size := lt_of_block HZ.out
  have HB3 := Lib.hid (HB2.out.trans (hb2.mono (by simp; omega)))
  clear hb2
  unfold PS.v
  go_wp2_with fail
  refine (sure_calls2 _ (HT.out.below (HB3.out.alloc HB3.out.size _))).mono ?_
  rintro e w3 ⟨rfl, hb3⟩
  go_wp2_with fail
  go_ret
  exact ⟨rfl, (HB3.out.alloc HB3.out.size _).trans (hb3.mono (Nat.le_trans HB3.out.size (by simp)))⟩
end Go.Proofs.YtenafjdlaefepaaDoor
