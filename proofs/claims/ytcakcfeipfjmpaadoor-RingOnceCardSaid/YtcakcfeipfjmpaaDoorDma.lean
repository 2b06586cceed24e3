/-
A state of package dma; without and ended, walked.
No condition.
-/
import Derived.Test.YtcakcfeipfjmpaaDoorMemNew
import Derived.Test.YtcakcfeipfjmpaaDoorRowAuto
namespace Go.Proofs.YtcakcfeipfjmpaaDoor
open Go.RowKit

structure Dst where
  code : Nat
  head : Nat
  at_ : Nat
  steps : Nat
  moved : Nat
  have_ : Bool
  from_ : Nat
  to_ : Nat
  left : Nat
  next : Nat
  asks : Bool
deriving DecidableEq
def Dst.c (s : Dst) : Array Value := #[.int .u32 s.code, .int .u32 s.head, .int .u32 s.at_, .int .u32 s.steps, .int .u32 s.moved, .bool s.have_, .int .u32 s.from_, .int .u32 s.to_, .int .u32 s.left, .int .u32 s.next, .bool s.asks]
structure Dst.wf (s : Dst) : Prop where
  code : s.code < 4294967296
  head : s.head < 4294967296
  at_ : s.at_ < 4294967296
  steps : s.steps < 4294967296
  moved : s.moved < 4294967296
  from_ : s.from_ < 4294967296
  to_ : s.to_ < 4294967296
  left : s.left < 4294967296
  next : s.next < 4294967296
def Dst.without (s : Dst) : Dst := { s with have_ := false, from_ := 0, to_ := 0, left := 0, next := 0 }
def Dst.ended (s : Dst) (c : Nat) : Dst := { s.without with code := c, asks := true }

set_option maxRecDepth 100000 in
set_option maxHeartbeats 1600000 in
theorem dma_without (s : Dst) (w : World) : Calls Tryd.prog 61 #[.agg s.c] w fun e w' => e = .returned (.agg s.without.c) ∧ Below w.heap.size w w' := by
  obtain ⟨code, head, at_, steps, moved, have_, from_, to_, left, next, asks⟩ := s
  simp only [Dst.c, Dst.without]
  go_enter Tryd.func61, Tryd.ntmps61
  go_wp2_with fail
  exact bodyPost_ret (v := .agg #[.int .u32 code, .int .u32 head, .int .u32 at_, .int .u32 steps, .int .u32 moved, .bool false, .int .u32 0, .int .u32 0, .int .u32 0, .int .u32 0, .bool asks]) (by simp [results, Tryd.results61, go_sem]) rfl ⟨rfl, ((Below.refl _ _).alloc (Nat.le_refl _) _).alloc (by simp) _⟩
theorem keepB {a b : World} {g : Nat} {x : Obj} (h : a.heap[g]? = some x) (hb : Below a.heap.size a b) : b.heap[g]? = some x := (hb.block _ (lt_heap h)).trans h
theorem two_new (w : World) (A B : Obj) : ((w.alloc A).alloc B).heap[w.heap.size]? = some A ∧ ((w.alloc A).alloc B).heap[w.heap.size + 1]? = some B ∧ Below w.heap.size w ((w.alloc A).alloc B) :=
  ⟨heap_alloc2_old _ _ _, heap_alloc2_new _ _ _, ((Below.refl _ _).alloc (Nat.le_refl _) _).alloc (by simp) _⟩
set_option maxRecDepth 100000 in
set_option maxHeartbeats 4000000 in
theorem dma_ended (s : Dst) (k : Nat) (w : World) : Calls Tryd.prog 89 #[.agg s.c, .int .u32 k] w fun e w' => e = .returned (.agg (s.ended k).c) ∧ Below w.heap.size w w' := by
  have HW := Lib.hid (fun W => dma_without s W)
  obtain ⟨code, head, at_, steps, moved, have_, from_, to_, left, next, asks⟩ := s
  simp only [Dst.c, Dst.without, Dst.ended] at HW ⊢
  obtain ⟨k0, k1, hb0⟩ := two_new w (.cells #[.int .u32 code, .int .u32 head, .int .u32 at_, .int .u32 steps, .int .u32 moved, .bool have_, .int .u32 from_, .int .u32 to_, .int .u32 left, .int .u32 next, .bool asks] 33) (.cells #[.int .u32 0, .int .u32 0, .int .u32 0, .int .u32 0, .int .u32 0, .bool false, .int .u32 0, .int .u32 0, .int .u32 0, .int .u32 0, .bool false] 33)
  have K0 := Lib.hid k0
  have K1 := Lib.hid k1
  have HB0 := Lib.hid hb0
  clear k0 k1 hb0
  go_enter Tryd.func89, Tryd.ntmps89
  go_wp2_with fail
  refine (HW.out _).mono ?_
  rintro e w1 ⟨rfl, hb⟩
  have K2 := Lib.hid (keepB K0.out hb)
  clear K0
  have K3 := Lib.hid (keepB K1.out hb)
  clear K1
  have HB4 := Lib.hid (HB0.out.trans (hb.mono HB0.out.size))
  clear HB0
  clear hb
  have HO5 := Lib.hid (show (#[.int .u32 code, .int .u32 head, .int .u32 at_, .int .u32 steps, .int .u32 moved, .bool false, .int .u32 0, .int .u32 0, .int .u32 0, .int .u32 0, .bool asks] : Array Value).all (·.oneCell') = true by simp [Value.oneCell'])
  go_wp2_with (refine wpList_store_to rfl 33 _ _ rfl (w.heap.size) #[.int .u32 code, .int .u32 head, .int .u32 at_, .int .u32 steps, .int .u32 moved, .bool false, .int .u32 0, .int .u32 0, .int .u32 0, .int .u32 0, .bool asks] rfl rfl 33 #[.int .u32 code, .int .u32 head, .int .u32 at_, .int .u32 steps, .int .u32 moved, .bool have_, .int .u32 from_, .int .u32 to_, .int .u32 left, .int .u32 next, .bool asks] K2.out (by kernel_rfl) rfl HO5.out ?_)
  intro w6 hx7 hkk
  have K8 := Lib.hid (hx7.out.heap K3.out (by omega))
  clear K3
  have K9 := Lib.hid hkk
  clear hkk K2
  have HB10 := Lib.hid (HB4.out.trans (hx7.out.below (B := w.heap.size) (fun k hk e => by omega) HB4.out.size))
  clear HB4 hx7
  have c11 := (cell_of_row _ _ 0 _ _ _ K9.out).trans (rfl : _ = some (.int .u32 code : Value))
  have c12 := (cell_of_row _ _ 10 _ _ _ K9.out).trans (rfl : _ = some (.bool asks : Value))
  have f13 := fun j => frozen_of_row _ _ j _ _ K9.out
  have hkk : ((((w6).setCell ⟨w.heap.size, 0, none⟩ (.int .u32 k))).setCell ⟨w.heap.size, 10, none⟩ (.bool true)).heap[w.heap.size]? = some (.cells #[.int .u32 k, .int .u32 head, .int .u32 at_, .int .u32 steps, .int .u32 moved, .bool false, .int .u32 0, .int .u32 0, .int .u32 0, .int .u32 0, .bool true] 33 (0, 0)) := (set_cells (set_cells (K9.out))).trans rfl
  have hx15 := Lib.hid (show KX (fun k => k = w.heap.size) w6 ((((w6).setCell ⟨w.heap.size, 0, none⟩ (.int .u32 k))).setCell ⟨w.heap.size, 10, none⟩ (.bool true)) from ((KX.refl (fun k => k = w.heap.size) w6).setCell (p := ⟨w.heap.size, 0, none⟩) (.inl rfl) _).setCell (p := ⟨w.heap.size, 10, none⟩) (.inl rfl) _)
  go_upto_region 3 with fail
  generalize ((((w6).setCell ⟨w.heap.size, 0, none⟩ (.int .u32 k))).setCell ⟨w.heap.size, 10, none⟩ (.bool true)) = w14 at hkk hx15 ⊢
  clear c11 c12 f13
  have K16 := Lib.hid (hx15.out.heap K8.out (by omega))
  clear K8
  have K17 := Lib.hid hkk
  clear hkk K9
  have HB18 := Lib.hid (HB10.out.trans (hx15.out.below (B := w.heap.size) (fun k hk e => by omega) HB10.out.size))
  clear HB10 hx15
  have HO19 := Lib.hid (show (#[.int .u32 k, .int .u32 head, .int .u32 at_, .int .u32 steps, .int .u32 moved, .bool false, .int .u32 0, .int .u32 0, .int .u32 0, .int .u32 0, .bool true] : Array Value).all (·.oneCell') = true by simp [Value.oneCell'])
  go_wp2_with (first | (refine wpList_load_row rfl 33 _ rfl (w.heap.size) rfl 33 #[.int .u32 k, .int .u32 head, .int .u32 at_, .int .u32 steps, .int .u32 moved, .bool false, .int .u32 0, .int .u32 0, .int .u32 0, .int .u32 0, .bool true] (0, 0) _ K17.out Tryd.underlying33 rfl (by kernel_rfl) ?_) | (refine wpList_store_to rfl 33 _ _ rfl (w.heap.size + 1) #[.int .u32 k, .int .u32 head, .int .u32 at_, .int .u32 steps, .int .u32 moved, .bool false, .int .u32 0, .int .u32 0, .int .u32 0, .int .u32 0, .bool true] rfl rfl 33 #[.int .u32 0, .int .u32 0, .int .u32 0, .int .u32 0, .int .u32 0, .bool false, .int .u32 0, .int .u32 0, .int .u32 0, .int .u32 0, .bool false] K16.out (by kernel_rfl) rfl HO19.out ?_))
  intro w20 hx21 hkk
  have K22 := Lib.hid (hx21.out.heap K17.out (by omega))
  clear K17
  have K23 := Lib.hid hkk
  clear hkk K16
  have HB24 := Lib.hid (HB18.out.trans (hx21.out.below (B := w.heap.size) (fun k hk e => by omega) HB18.out.size))
  clear HB18 hx21
  go_wp2_with fail
  exact bodyPost_ret (v := .agg #[.int .u32 k, .int .u32 head, .int .u32 at_, .int .u32 steps, .int .u32 moved, .bool false, .int .u32 0, .int .u32 0, .int .u32 0, .int .u32 0, .bool true]) (results_cell_row Tryd.results89 _ _ (w.heap.size + 1) 33 #[.int .u32 k, .int .u32 head, .int .u32 at_, .int .u32 steps, .int .u32 moved, .bool false, .int .u32 0, .int .u32 0, .int .u32 0, .int .u32 0, .bool true] (0, 0) _ rfl K23.out Tryd.underlying33 rfl (by kernel_rfl)) rfl ⟨rfl, HB24.out⟩

end Go.Proofs.YtcakcfeipfjmpaaDoor
