/-
virtio.Used, walked.
No condition.
-/
import Derived.Test.YtcmbnkmbaghkdaaDoorVioFail
namespace Go.Proofs.YtcmbnkmbaghkdaaDoor
open Go.RowKit
set_option linter.unusedVariables false

def VS.used (s : VS) : VS := { s with irq := s.irq ||| 1 }
theorem used_row (s : VS) (y : Nat) : s.c.setIfInBounds 4 (.int .u32 y) = ({ s with irq := y } : VS).c := rfl
set_option maxRecDepth 100000 in
set_option maxHeartbeats 1000000 in
theorem vs_Used (s : VS) (hq : s.irq < 4294967296) (w : World) :
    Calls Tryd.prog 82 #[s.v] w fun e w' => e = .returned s.used.v ∧ Below w.heap.size w w' := by
  have hb2 : bits BinOp.or IntKind.u32 (s.irq : Int) 1 = ((s.irq ||| 1 : Nat) : Int) := by rw [show (1 : Int) = ((1 : Nat) : Int) from rfl, u32_or_nat _ _ hq (by omega)]
  have HT := Lib.hid (used_row s (s.irq ||| 1))
  rw [← VS.used] at HT
  have hc4 : s.c[4]? = some (.int .u32 s.irq) := rfl
  have hsz : s.c.size = 21 := rfl
  have hone := s.used.c_one
  simp only [VS.v]
  obtain ⟨c, hc⟩ : ∃ c, c = s.c := ⟨_, rfl⟩
  obtain ⟨d, hd⟩ : ∃ d, d = s.used.c := ⟨_, rfl⟩
  rw [← hc] at HT hc4 hsz ⊢
  rw [← hd] at HT hone ⊢
  clear hc hd hq
  have hdz : d.size = 21 := by rw [← HT.out]; simp [hsz]
  have HI := Lib.hid (show (Tryd.prog.info? 73).map (·.size) = some d.size by rw [hdz]; kernel_rfl)
  have HO := Lib.hid hone
  clear hone
  obtain ⟨v4, hv4⟩ : ∃ v4, v4 = s.irq ||| 1 := ⟨_, rfl⟩
  rw [← hv4] at hb2 HT
  clear hv4
  have HZ := Lib.hid (show (((w.alloc (.cells c 73)).alloc (.cells VS.zero.c 73))).heap[w.heap.size]? = some (.cells c 73 (0, 0)) from heap_alloc2_old _ _ _)
  have hf4 := frozen_of_row _ _ 4 _ _ HZ.out
  have hk4 := (cell_of_row _ _ 4 _ _ _ HZ.out).trans hc4
  go_enter Tryd.func82, Tryd.ntmps82
  have hg4 := get_of hc4
  have HA : Hid (((w.alloc (.cells (c.setIfInBounds 4 (.int .u32 v4)) 73)).alloc (.cells VS.zero.c 73)).heap[w.heap.size]? = some (.cells d 73 (0, 0))) := Lib.hid (by rw [HT.out]; exact heap_alloc2_old _ _ _)
  have HB : Hid (((w.alloc (.cells (c.setIfInBounds 4 (.int .u32 v4)) 73)).alloc (.cells VS.zero.c 73)).heap[w.heap.size + 1]? = some (.cells VS.zero.c 73 (0, 0))) := Lib.hid (heap_alloc2_new _ _ _)
  have hbl := ((Below.refl w.heap.size w).alloc (Nat.le_refl _) (.cells (c.setIfInBounds 4 (.int .u32 v4)) 73)).alloc (by simp) (.cells VS.zero.c 73)
  have HSZ : Hid (VS.zero.c.size = d.size) := Lib.hid (by rw [hdz]; rfl)
  clear hf4 hk4
  go_wp2_with (first | (refine wpList_load_row rfl 73 _ rfl w.heap.size rfl 73 d (0, 0) _ HA.out Tryd.underlying73 rfl HI.out ?_) | (refine wpList_store_row rfl 73 _ _ rfl (w.heap.size + 1) d rfl rfl 73 VS.zero.c HB.out HI.out HSZ.out HO.out ?_))
  exact bodyPost_ret (v := .agg d) (results_cell_row rfl _ _ (w.heap.size + 1) 73 d (0, 0) _ rfl (setRow_heap _ _ _ _ _ _ HB.out) Tryd.underlying73 rfl HI.out) rfl ⟨rfl, below_setRow hbl (by simp) _⟩
end Go.Proofs.YtcmbnkmbaghkdaaDoor
