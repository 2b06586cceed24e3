/-
virtio.Fail, walked.
No condition.
-/
import Derived.Test.YtcmbnkmbaghkdaaDoorVioRow
namespace Go.Proofs.YtcmbnkmbaghkdaaDoor
open Go.RowKit

theorem get_of {α : Type} {c : Array α} {i : Nat} {v : α} (h : c[i]? = some v) : ∀ h : i < c.size, c[i] = v := fun h' => by
  rw [Array.getElem?_eq_getElem h'] at h; exact Option.some.inj h
theorem VS.c_one (s : VS) : s.c.all (·.oneCell') = true := by simp [VS.c, Value.oneCell']
def VS.zero : VS := ⟨0, 0, 0, 0, 0, 0, 0, ⟨false, 0, 0, 0, 0, 0, 0⟩, ⟨false, 0, 0, 0, 0, 0, 0⟩⟩
def VS.put (s : VS) (x y : Nat) : VS := { s with st := x, irq := y }
def VS.fail (s : VS) : VS := s.put (s.st ||| 64) (s.irq ||| 2)
theorem put_row (s : VS) (x y : Nat) : (s.c.setIfInBounds 0 (.int .u32 x)).setIfInBounds 4 (.int .u32 y) = (s.put x y).c := rfl

set_option maxRecDepth 100000 in
set_option maxHeartbeats 1000000 in
theorem vs_Fail (s : VS) (hs : s.st < 4294967296) (hq : s.irq < 4294967296) (w : World) :
    Calls Tryd.prog 44 #[s.v] w fun e w' => e = .returned s.fail.v ∧ Below w.heap.size w w' := by
  have hb1 : bits BinOp.or IntKind.u32 (s.st : Int) 64 = ((s.st ||| 64 : Nat) : Int) := by rw [show (64 : Int) = ((64 : Nat) : Int) from rfl, u32_or_nat _ _ hs (by omega)]
  have hb2 : bits BinOp.or IntKind.u32 (s.irq : Int) 2 = ((s.irq ||| 2 : Nat) : Int) := by rw [show (2 : Int) = ((2 : Nat) : Int) from rfl, u32_or_nat _ _ hq (by omega)]
  have HT := Lib.hid (put_row s (s.st ||| 64) (s.irq ||| 2))
  rw [← VS.fail] at HT
  have hc0 : s.c[0]? = some (.int .u32 s.st) := rfl
  have hc4 : s.c[4]? = some (.int .u32 s.irq) := rfl
  have hsz : s.c.size = 21 := rfl
  have hone := s.fail.c_one
  simp only [VS.v]
  obtain ⟨c, hc⟩ : ∃ c, c = s.c := ⟨_, rfl⟩
  obtain ⟨d, hd⟩ : ∃ d, d = s.fail.c := ⟨_, rfl⟩
  rw [← hc] at HT hc0 hc4 hsz ⊢
  rw [← hd] at HT hone ⊢
  clear hc hd hs hq
  have hdz : d.size = 21 := by rw [← HT.out]; simp [hsz]
  have HI := Lib.hid (show (Tryd.prog.info? 73).map (·.size) = some d.size by rw [hdz]; kernel_rfl)
  have HO := Lib.hid hone
  clear hone
  obtain ⟨v0, hv0⟩ : ∃ v0, v0 = s.st ||| 64 := ⟨_, rfl⟩
  obtain ⟨v4, hv4⟩ : ∃ v4, v4 = s.irq ||| 2 := ⟨_, rfl⟩
  rw [← hv0] at hb1 HT
  rw [← hv4] at hb2 HT
  clear hv0 hv4
  have HZ := Lib.hid (show (((w.alloc (.cells c 73)).alloc (.cells VS.zero.c 73))).heap[w.heap.size]? = some (.cells c 73 (0, 0)) from heap_alloc2_old _ _ _)
  have hf0 := frozen_of_row _ _ 0 _ _ HZ.out
  have hf4 := frozen_of_row _ _ 4 _ _ HZ.out
  have hk0 := (cell_of_row _ _ 0 _ _ _ HZ.out).trans hc0
  have hk4 := (cell_of_row _ _ 4 _ _ _ HZ.out).trans hc4
  go_enter Tryd.func44, Tryd.ntmps44
  have hg0 := get_of hc0
  have hg4 := get_of hc4
  have HA : Hid (((w.alloc (.cells ((c.setIfInBounds 0 (.int .u32 v0)).setIfInBounds 4 (.int .u32 v4)) 73)).alloc (.cells VS.zero.c 73)).heap[w.heap.size]? = some (.cells d 73 (0, 0))) := Lib.hid (by rw [HT.out]; exact heap_alloc2_old _ _ _)
  have HB : Hid (((w.alloc (.cells ((c.setIfInBounds 0 (.int .u32 v0)).setIfInBounds 4 (.int .u32 v4)) 73)).alloc (.cells VS.zero.c 73)).heap[w.heap.size + 1]? = some (.cells VS.zero.c 73 (0, 0))) := Lib.hid (heap_alloc2_new _ _ _)
  have hbl := ((Below.refl w.heap.size w).alloc (Nat.le_refl _) (.cells ((c.setIfInBounds 0 (.int .u32 v0)).setIfInBounds 4 (.int .u32 v4)) 73)).alloc (by simp) (.cells VS.zero.c 73)
  have HSZ : Hid (VS.zero.c.size = d.size) := Lib.hid (by rw [hdz]; rfl)
  clear hf0 hf4 hk0 hk4
  go_wp2_with (first | (refine wpList_load_row rfl 73 _ rfl w.heap.size rfl 73 d (0, 0) _ HA.out Tryd.underlying73 rfl HI.out ?_) | (refine wpList_store_row rfl 73 _ _ rfl (w.heap.size + 1) d rfl rfl 73 VS.zero.c HB.out HI.out HSZ.out HO.out ?_))
  exact bodyPost_ret (v := .agg d) (results_cell_row rfl _ _ (w.heap.size + 1) 73 d (0, 0) _ rfl (setRow_heap _ _ _ _ _ _ HB.out) Tryd.underlying73 rfl HI.out) rfl ⟨rfl, below_setRow hbl (by simp) _⟩
end Go.Proofs.YtcmbnkmbaghkdaaDoor
