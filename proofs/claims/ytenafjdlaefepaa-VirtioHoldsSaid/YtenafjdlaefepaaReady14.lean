/-
pinnacelaw14.VirtioReady, walked: it answers true.
No condition.
-/
import Derived.Test.YtenafjdlaefepaaSure14
import Derived.Test.YtenafjdlaefepaaVioLaw
import Derived.Deep.QuietTactic
import Derived.BigQuiet
namespace Go.Proofs.Ytenafjdlaefepaa
open Go.RowKit


theorem VS.qa' (s : VS) : ∀ j, j < 7 → s.c[7 + j]? = s.a.l[j]? := fun _ hj => seven (P := fun i => s.c[7 + i]? = s.a.l[i]?) hj rfl rfl rfl rfl rfl rfl rfl
theorem VS.qb' (s : VS) : ∀ j, j < 7 → s.c[14 + j]? = s.b.l[j]? := fun _ hj => seven (P := fun i => s.c[14 + i]? = s.b.l[i]?) hj rfl rfl rfl rfl rfl rfl rfl

set_option maxRecDepth 100000 in
set_option maxHeartbeats 4000000 in
theorem ready_err (c : Array Value) (at_ v m : Nat) (w : World) (hcz : c.size = 21) (hone : c.all (·.oneCell') = true)
    (HG : Hid (∀ W, Calls Try.prog 5 #[.agg c] W fun e w' => e = .returned (.agg c) ∧ Below W.heap.size W w'))
    (HS : Hid (∀ W, Calls Try.prog 7 #[] W fun e w' => e = .returned (.bool true) ∧ Below W.heap.size W w'))
    (HC : Hid (∀ W, Calls Try.prog 6 #[.agg c] W fun e w' => e = .returned (.iface 51 (.int .i64 m)) ∧ Below W.heap.size W w')) :
    Calls Try.prog 4 #[.agg c, .int .u32 at_, .int .u32 v] w fun e w' => e = .returned (.bool true) ∧ Below w.heap.size w w' := by
  have HIC := Lib.hid (show (Try.prog.info? 38).map (·.size) = some c.size by rw [hcz]; kernel_rfl)
  have HIR := Lib.hid (show (Try.prog.info? 31).map (·.size) = some c.size by rw [hcz]; kernel_rfl)
  have HZC : Hid (VS.zero.c.size = c.size) := Lib.hid (by rw [hcz]; rfl)
  have HOC := Lib.hid hone
  have H0 := Lib.hid (show (w.alloc (.cells c 31)).heap[w.heap.size]? = some (.cells c 31 (0, 0)) from heap_alloc_new _ _)
  have HB0 := Lib.hid ((Below.refl w.heap.size w).alloc (Nat.le_refl _) (.cells c 31))
  clear hone
  go_enter Try.func4, Try.ntmps4
  go_wp2_with (refine wpList_load_row rfl 31 _ rfl w.heap.size rfl 31 c (0, 0) _ H0.out Try.underlying31 rfl HIR.out ?_)
  refine (HG.out _).mono ?_
  rintro e w1 ⟨rfl, hb⟩
  have HB1 := Lib.hid (HB0.out.trans (hb.mono HB0.out.size))
  have HZ1 := Lib.hid (show (w1.alloc (.cells VS.zero.c 38)).heap[w1.heap.size]? = some (.cells VS.zero.c 38 (0, 0)) from heap_alloc_new _ _)
  clear hb H0 HB0
  have HX1 := Lib.hid (show ((w1.alloc (.cells #[Value.int IntKind.u32 0, Value.int IntKind.u32 0, Value.int IntKind.u32 0, Value.int IntKind.u32 0, Value.int IntKind.u32 0, Value.int IntKind.u32 0, Value.int IntKind.u32 0, Value.bool false, Value.int IntKind.i64 0, Value.int IntKind.u32 0, Value.int IntKind.u32 0, Value.int IntKind.u32 0, Value.int IntKind.u16 0, Value.int IntKind.u16 0, Value.bool false, Value.int IntKind.i64 0, Value.int IntKind.u32 0, Value.int IntKind.u32 0, Value.int IntKind.u32 0, Value.int IntKind.u16 0, Value.int IntKind.u16 0] 38)).setRow w1.heap.size c).heap[w1.heap.size]? = some (.cells c 38 (0, 0)) from setRow_heap _ _ _ _ _ _ HZ1.out)
  have HBX := Lib.hid (show Below w.heap.size w ((w1.alloc (.cells #[Value.int IntKind.u32 0, Value.int IntKind.u32 0, Value.int IntKind.u32 0, Value.int IntKind.u32 0, Value.int IntKind.u32 0, Value.int IntKind.u32 0, Value.int IntKind.u32 0, Value.bool false, Value.int IntKind.i64 0, Value.int IntKind.u32 0, Value.int IntKind.u32 0, Value.int IntKind.u32 0, Value.int IntKind.u16 0, Value.int IntKind.u16 0, Value.bool false, Value.int IntKind.i64 0, Value.int IntKind.u32 0, Value.int IntKind.u32 0, Value.int IntKind.u32 0, Value.int IntKind.u16 0, Value.int IntKind.u16 0] 38)).setRow w1.heap.size c) from below_setRow (HB1.out.alloc HB1.out.size _) HB1.out.size _)
  go_wp2_with (first | (refine wpList_store_row rfl 38 _ _ rfl w1.heap.size c rfl rfl 38 VS.zero.c HZ1.out HIC.out HZC.out HOC.out ?_) | (refine load_rowW rfl 38 _ rfl w1.heap.size rfl 38 c (0, 0) _ HX1.out Try.underlying38 rfl HIC.out ?_))
  generalize hbx : w1.heap.size = bx at HX1
  have hbx2 : w.heap.size ≤ bx := by rw [← hbx]; exact HB1.out.size
  rw [hbx] at HBX
  generalize (w1.alloc (.cells #[Value.int IntKind.u32 0, Value.int IntKind.u32 0, Value.int IntKind.u32 0, Value.int IntKind.u32 0, Value.int IntKind.u32 0, Value.int IntKind.u32 0, Value.int IntKind.u32 0, Value.bool false, Value.int IntKind.i64 0, Value.int IntKind.u32 0, Value.int IntKind.u32 0, Value.int IntKind.u32 0, Value.int IntKind.u16 0, Value.int IntKind.u16 0, Value.bool false, Value.int IntKind.i64 0, Value.int IntKind.u32 0, Value.int IntKind.u32 0, Value.int IntKind.u32 0, Value.int IntKind.u16 0, Value.int IntKind.u16 0] 38)).setRow bx c = w2 at HX1 HBX ⊢
  clear HZ1 HB1 hbx
  refine (HC.out _).mono ?_
  rintro e w3 ⟨rfl, hb⟩
  have HX3 := Lib.hid (below_cells HX1.out hb)
  have HB3 := Lib.hid (HBX.out.trans (hb.mono HBX.out.size))
  clear hb HX1 HBX
  go_wp2_with fail
  refine (HS.out _).mono ?_
  rintro e w4 ⟨rfl, hb4⟩
  go_wp2_with fail
  go_ret
  exact ⟨rfl, HB3.out.trans (hb4.mono HB3.out.size)⟩

set_option maxRecDepth 100000 in
set_option maxHeartbeats 4000000 in
theorem ready_68 (c : Array Value) (v : Nat) (w : World) (hcz : c.size = 21) (hone : c.all (·.oneCell') = true)
    (HG : Hid (∀ W, Calls Try.prog 5 #[.agg c] W fun e w' => e = .returned (.agg c) ∧ Below W.heap.size W w'))
    (HS : Hid (∀ W, Calls Try.prog 7 #[] W fun e w' => e = .returned (.bool true) ∧ Below W.heap.size W w'))
    (HC : Hid (∀ W, Calls Try.prog 6 #[.agg c] W fun e w' => e = .returned (.nilIface) ∧ Below W.heap.size W w')) :
    Calls Try.prog 4 #[.agg c, .int .u32 68, .int .u32 v] w fun e w' => e = .returned (.bool true) ∧ Below w.heap.size w w' := by
  have HIC := Lib.hid (show (Try.prog.info? 38).map (·.size) = some c.size by rw [hcz]; kernel_rfl)
  have HIR := Lib.hid (show (Try.prog.info? 31).map (·.size) = some c.size by rw [hcz]; kernel_rfl)
  have HZC : Hid (VS.zero.c.size = c.size) := Lib.hid (by rw [hcz]; rfl)
  have HOC := Lib.hid hone
  have H0 := Lib.hid (show (w.alloc (.cells c 31)).heap[w.heap.size]? = some (.cells c 31 (0, 0)) from heap_alloc_new _ _)
  have HB0 := Lib.hid ((Below.refl w.heap.size w).alloc (Nat.le_refl _) (.cells c 31))
  clear hone
  go_enter Try.func4, Try.ntmps4
  go_wp2_with (refine wpList_load_row rfl 31 _ rfl w.heap.size rfl 31 c (0, 0) _ H0.out Try.underlying31 rfl HIR.out ?_)
  refine (HG.out _).mono ?_
  rintro e w1 ⟨rfl, hb⟩
  have HB1 := Lib.hid (HB0.out.trans (hb.mono HB0.out.size))
  have HZ1 := Lib.hid (show (w1.alloc (.cells VS.zero.c 38)).heap[w1.heap.size]? = some (.cells VS.zero.c 38 (0, 0)) from heap_alloc_new _ _)
  clear hb H0 HB0
  have HX1 := Lib.hid (show ((w1.alloc (.cells #[Value.int IntKind.u32 0, Value.int IntKind.u32 0, Value.int IntKind.u32 0, Value.int IntKind.u32 0, Value.int IntKind.u32 0, Value.int IntKind.u32 0, Value.int IntKind.u32 0, Value.bool false, Value.int IntKind.i64 0, Value.int IntKind.u32 0, Value.int IntKind.u32 0, Value.int IntKind.u32 0, Value.int IntKind.u16 0, Value.int IntKind.u16 0, Value.bool false, Value.int IntKind.i64 0, Value.int IntKind.u32 0, Value.int IntKind.u32 0, Value.int IntKind.u32 0, Value.int IntKind.u16 0, Value.int IntKind.u16 0] 38)).setRow w1.heap.size c).heap[w1.heap.size]? = some (.cells c 38 (0, 0)) from setRow_heap _ _ _ _ _ _ HZ1.out)
  have HBX := Lib.hid (show Below w.heap.size w ((w1.alloc (.cells #[Value.int IntKind.u32 0, Value.int IntKind.u32 0, Value.int IntKind.u32 0, Value.int IntKind.u32 0, Value.int IntKind.u32 0, Value.int IntKind.u32 0, Value.int IntKind.u32 0, Value.bool false, Value.int IntKind.i64 0, Value.int IntKind.u32 0, Value.int IntKind.u32 0, Value.int IntKind.u32 0, Value.int IntKind.u16 0, Value.int IntKind.u16 0, Value.bool false, Value.int IntKind.i64 0, Value.int IntKind.u32 0, Value.int IntKind.u32 0, Value.int IntKind.u32 0, Value.int IntKind.u16 0, Value.int IntKind.u16 0] 38)).setRow w1.heap.size c) from below_setRow (HB1.out.alloc HB1.out.size _) HB1.out.size _)
  go_wp2_with (first | (refine wpList_store_row rfl 38 _ _ rfl w1.heap.size c rfl rfl 38 VS.zero.c HZ1.out HIC.out HZC.out HOC.out ?_) | (refine load_rowW rfl 38 _ rfl w1.heap.size rfl 38 c (0, 0) _ HX1.out Try.underlying38 rfl HIC.out ?_))
  generalize hbx : w1.heap.size = bx at HX1
  have hbx2 : w.heap.size ≤ bx := by rw [← hbx]; exact HB1.out.size
  rw [hbx] at HBX
  generalize (w1.alloc (.cells #[Value.int IntKind.u32 0, Value.int IntKind.u32 0, Value.int IntKind.u32 0, Value.int IntKind.u32 0, Value.int IntKind.u32 0, Value.int IntKind.u32 0, Value.int IntKind.u32 0, Value.bool false, Value.int IntKind.i64 0, Value.int IntKind.u32 0, Value.int IntKind.u32 0, Value.int IntKind.u32 0, Value.int IntKind.u16 0, Value.int IntKind.u16 0, Value.bool false, Value.int IntKind.i64 0, Value.int IntKind.u32 0, Value.int IntKind.u32 0, Value.int IntKind.u32 0, Value.int IntKind.u16 0, Value.int IntKind.u16 0] 38)).setRow bx c = w2 at HX1 HBX ⊢
  clear HZ1 HB1 hbx
  refine (HC.out _).mono ?_
  rintro e w3 ⟨rfl, hb⟩
  have HX3 := Lib.hid (below_cells HX1.out hb)
  have HB3 := Lib.hid (HBX.out.trans (hb.mono HBX.out.size))
  clear hb HX1 HBX
  go_wp2_with fail
  refine (HS.out _).mono ?_
  rintro e w4 ⟨rfl, hb4⟩
  go_wp2_with fail
  go_ret
  exact ⟨rfl, HB3.out.trans (hb4.mono HB3.out.size)⟩

set_option maxRecDepth 100000 in
set_option maxHeartbeats 4000000 in
theorem ready_112 (c : Array Value) (v : Nat) (w : World) (hcz : c.size = 21) (hone : c.all (·.oneCell') = true)
    (HG : Hid (∀ W, Calls Try.prog 5 #[.agg c] W fun e w' => e = .returned (.agg c) ∧ Below W.heap.size W w'))
    (HS : Hid (∀ W, Calls Try.prog 7 #[] W fun e w' => e = .returned (.bool true) ∧ Below W.heap.size W w'))
    (HC : Hid (∀ W, Calls Try.prog 6 #[.agg c] W fun e w' => e = .returned (.nilIface) ∧ Below W.heap.size W w')) :
    Calls Try.prog 4 #[.agg c, .int .u32 112, .int .u32 v] w fun e w' => e = .returned (.bool true) ∧ Below w.heap.size w w' := by
  have HIC := Lib.hid (show (Try.prog.info? 38).map (·.size) = some c.size by rw [hcz]; kernel_rfl)
  have HIR := Lib.hid (show (Try.prog.info? 31).map (·.size) = some c.size by rw [hcz]; kernel_rfl)
  have HZC : Hid (VS.zero.c.size = c.size) := Lib.hid (by rw [hcz]; rfl)
  have HOC := Lib.hid hone
  have H0 := Lib.hid (show (w.alloc (.cells c 31)).heap[w.heap.size]? = some (.cells c 31 (0, 0)) from heap_alloc_new _ _)
  have HB0 := Lib.hid ((Below.refl w.heap.size w).alloc (Nat.le_refl _) (.cells c 31))
  clear hone
  go_enter Try.func4, Try.ntmps4
  go_wp2_with (refine wpList_load_row rfl 31 _ rfl w.heap.size rfl 31 c (0, 0) _ H0.out Try.underlying31 rfl HIR.out ?_)
  refine (HG.out _).mono ?_
  rintro e w1 ⟨rfl, hb⟩
  have HB1 := Lib.hid (HB0.out.trans (hb.mono HB0.out.size))
  have HZ1 := Lib.hid (show (w1.alloc (.cells VS.zero.c 38)).heap[w1.heap.size]? = some (.cells VS.zero.c 38 (0, 0)) from heap_alloc_new _ _)
  clear hb H0 HB0
  have HX1 := Lib.hid (show ((w1.alloc (.cells #[Value.int IntKind.u32 0, Value.int IntKind.u32 0, Value.int IntKind.u32 0, Value.int IntKind.u32 0, Value.int IntKind.u32 0, Value.int IntKind.u32 0, Value.int IntKind.u32 0, Value.bool false, Value.int IntKind.i64 0, Value.int IntKind.u32 0, Value.int IntKind.u32 0, Value.int IntKind.u32 0, Value.int IntKind.u16 0, Value.int IntKind.u16 0, Value.bool false, Value.int IntKind.i64 0, Value.int IntKind.u32 0, Value.int IntKind.u32 0, Value.int IntKind.u32 0, Value.int IntKind.u16 0, Value.int IntKind.u16 0] 38)).setRow w1.heap.size c).heap[w1.heap.size]? = some (.cells c 38 (0, 0)) from setRow_heap _ _ _ _ _ _ HZ1.out)
  have HBX := Lib.hid (show Below w.heap.size w ((w1.alloc (.cells #[Value.int IntKind.u32 0, Value.int IntKind.u32 0, Value.int IntKind.u32 0, Value.int IntKind.u32 0, Value.int IntKind.u32 0, Value.int IntKind.u32 0, Value.int IntKind.u32 0, Value.bool false, Value.int IntKind.i64 0, Value.int IntKind.u32 0, Value.int IntKind.u32 0, Value.int IntKind.u32 0, Value.int IntKind.u16 0, Value.int IntKind.u16 0, Value.bool false, Value.int IntKind.i64 0, Value.int IntKind.u32 0, Value.int IntKind.u32 0, Value.int IntKind.u32 0, Value.int IntKind.u16 0, Value.int IntKind.u16 0] 38)).setRow w1.heap.size c) from below_setRow (HB1.out.alloc HB1.out.size _) HB1.out.size _)
  go_wp2_with (first | (refine wpList_store_row rfl 38 _ _ rfl w1.heap.size c rfl rfl 38 VS.zero.c HZ1.out HIC.out HZC.out HOC.out ?_) | (refine load_rowW rfl 38 _ rfl w1.heap.size rfl 38 c (0, 0) _ HX1.out Try.underlying38 rfl HIC.out ?_))
  generalize hbx : w1.heap.size = bx at HX1
  have hbx2 : w.heap.size ≤ bx := by rw [← hbx]; exact HB1.out.size
  rw [hbx] at HBX
  generalize (w1.alloc (.cells #[Value.int IntKind.u32 0, Value.int IntKind.u32 0, Value.int IntKind.u32 0, Value.int IntKind.u32 0, Value.int IntKind.u32 0, Value.int IntKind.u32 0, Value.int IntKind.u32 0, Value.bool false, Value.int IntKind.i64 0, Value.int IntKind.u32 0, Value.int IntKind.u32 0, Value.int IntKind.u32 0, Value.int IntKind.u16 0, Value.int IntKind.u16 0, Value.bool false, Value.int IntKind.i64 0, Value.int IntKind.u32 0, Value.int IntKind.u32 0, Value.int IntKind.u32 0, Value.int IntKind.u16 0, Value.int IntKind.u16 0] 38)).setRow bx c = w2 at HX1 HBX ⊢
  clear HZ1 HB1 hbx
  refine (HC.out _).mono ?_
  rintro e w3 ⟨rfl, hb⟩
  have HX3 := Lib.hid (below_cells HX1.out hb)
  have HB3 := Lib.hid (HBX.out.trans (hb.mono HBX.out.size))
  clear hb HX1 HBX
  go_wp2_with fail
  refine (HS.out _).mono ?_
  rintro e w4 ⟨rfl, hb4⟩
  go_wp2_with fail
  go_ret
  exact ⟨rfl, HB3.out.trans (hb4.mono HB3.out.size)⟩

set_option maxRecDepth 100000 in
set_option maxHeartbeats 4000000 in
theorem ready_werr (c d : Array Value) (at_ v m : Nat) (n : Int) (w : World) (hcz : c.size = 21) (hone : c.all (·.oneCell') = true) (hdz : d.size = 21) (hdone : d.all (·.oneCell') = true)
    (HG : Hid (∀ W, Calls Try.prog 5 #[.agg c] W fun e w' => e = .returned (.agg c) ∧ Below W.heap.size W w'))
    (HS : Hid (∀ W, Calls Try.prog 7 #[] W fun e w' => e = .returned (.bool true) ∧ Below W.heap.size W w'))
    (HC : Hid (∀ W, Calls Try.prog 6 #[.agg c] W fun e w' => e = .returned (.nilIface) ∧ Below W.heap.size W w'))
    (b68 : ((at_ : Int) == 68) = false) (b112 : ((at_ : Int) == 112) = false)
    (HW : Hid (∀ W, Calls Try.prog 8 #[.agg c, .int .u32 at_, .int .u32 v] W fun e w' => e = .returned (.tuple #[.agg d, .int .i64 n, .iface 51 (.int .i64 m)]) ∧ Below W.heap.size W w')) :
    Calls Try.prog 4 #[.agg c, .int .u32 at_, .int .u32 v] w fun e w' => e = .returned (.bool true) ∧ Below w.heap.size w w' := by
  have HIC := Lib.hid (show (Try.prog.info? 38).map (·.size) = some c.size by rw [hcz]; kernel_rfl)
  have HIR := Lib.hid (show (Try.prog.info? 31).map (·.size) = some c.size by rw [hcz]; kernel_rfl)
  have HZC : Hid (VS.zero.c.size = c.size) := Lib.hid (by rw [hcz]; rfl)
  have HOC := Lib.hid hone
  have H0 := Lib.hid (show (w.alloc (.cells c 31)).heap[w.heap.size]? = some (.cells c 31 (0, 0)) from heap_alloc_new _ _)
  have HB0 := Lib.hid ((Below.refl w.heap.size w).alloc (Nat.le_refl _) (.cells c 31))
  clear hone
  go_enter Try.func4, Try.ntmps4
  go_wp2_with (refine wpList_load_row rfl 31 _ rfl w.heap.size rfl 31 c (0, 0) _ H0.out Try.underlying31 rfl HIR.out ?_)
  refine (HG.out _).mono ?_
  rintro e w1 ⟨rfl, hb⟩
  have HB1 := Lib.hid (HB0.out.trans (hb.mono HB0.out.size))
  have HZ1 := Lib.hid (show (w1.alloc (.cells VS.zero.c 38)).heap[w1.heap.size]? = some (.cells VS.zero.c 38 (0, 0)) from heap_alloc_new _ _)
  clear hb H0 HB0
  have HX1 := Lib.hid (show ((w1.alloc (.cells #[Value.int IntKind.u32 0, Value.int IntKind.u32 0, Value.int IntKind.u32 0, Value.int IntKind.u32 0, Value.int IntKind.u32 0, Value.int IntKind.u32 0, Value.int IntKind.u32 0, Value.bool false, Value.int IntKind.i64 0, Value.int IntKind.u32 0, Value.int IntKind.u32 0, Value.int IntKind.u32 0, Value.int IntKind.u16 0, Value.int IntKind.u16 0, Value.bool false, Value.int IntKind.i64 0, Value.int IntKind.u32 0, Value.int IntKind.u32 0, Value.int IntKind.u32 0, Value.int IntKind.u16 0, Value.int IntKind.u16 0] 38)).setRow w1.heap.size c).heap[w1.heap.size]? = some (.cells c 38 (0, 0)) from setRow_heap _ _ _ _ _ _ HZ1.out)
  have HBX := Lib.hid (show Below w.heap.size w ((w1.alloc (.cells #[Value.int IntKind.u32 0, Value.int IntKind.u32 0, Value.int IntKind.u32 0, Value.int IntKind.u32 0, Value.int IntKind.u32 0, Value.int IntKind.u32 0, Value.int IntKind.u32 0, Value.bool false, Value.int IntKind.i64 0, Value.int IntKind.u32 0, Value.int IntKind.u32 0, Value.int IntKind.u32 0, Value.int IntKind.u16 0, Value.int IntKind.u16 0, Value.bool false, Value.int IntKind.i64 0, Value.int IntKind.u32 0, Value.int IntKind.u32 0, Value.int IntKind.u32 0, Value.int IntKind.u16 0, Value.int IntKind.u16 0] 38)).setRow w1.heap.size c) from below_setRow (HB1.out.alloc HB1.out.size _) HB1.out.size _)
  go_wp2_with (first | (refine wpList_store_row rfl 38 _ _ rfl w1.heap.size c rfl rfl 38 VS.zero.c HZ1.out HIC.out HZC.out HOC.out ?_) | (refine load_rowW rfl 38 _ rfl w1.heap.size rfl 38 c (0, 0) _ HX1.out Try.underlying38 rfl HIC.out ?_))
  generalize hbx : w1.heap.size = bx at HX1
  have hbx2 : w.heap.size ≤ bx := by rw [← hbx]; exact HB1.out.size
  rw [hbx] at HBX
  generalize (w1.alloc (.cells #[Value.int IntKind.u32 0, Value.int IntKind.u32 0, Value.int IntKind.u32 0, Value.int IntKind.u32 0, Value.int IntKind.u32 0, Value.int IntKind.u32 0, Value.int IntKind.u32 0, Value.bool false, Value.int IntKind.i64 0, Value.int IntKind.u32 0, Value.int IntKind.u32 0, Value.int IntKind.u32 0, Value.int IntKind.u16 0, Value.int IntKind.u16 0, Value.bool false, Value.int IntKind.i64 0, Value.int IntKind.u32 0, Value.int IntKind.u32 0, Value.int IntKind.u32 0, Value.int IntKind.u16 0, Value.int IntKind.u16 0] 38)).setRow bx c = w2 at HX1 HBX ⊢
  clear HZ1 HB1 hbx
  refine (HC.out _).mono ?_
  rintro e w3 ⟨rfl, hb⟩
  have HX3 := Lib.hid (below_cells HX1.out hb)
  have HB3 := Lib.hid (HBX.out.trans (hb.mono HBX.out.size))
  clear hb HX1 HBX
  go_wp2_with (refine load_rowW rfl 38 _ rfl bx rfl 38 c (0, 0) _ HX3.out Try.underlying38 rfl HIC.out ?_)
  refine (HW.out _).mono ?_
  rintro e w5 ⟨rfl, hb⟩
  have HX5 := Lib.hid (below_cells HX3.out hb)
  have HB5 := Lib.hid (HB3.out.trans (hb.mono HB3.out.size))
  clear hb HX3 HB3
  have HZ5 := Lib.hid (show (w5.alloc (.cells VS.zero.c 38)).heap[w5.heap.size]? = some (.cells VS.zero.c 38 (0, 0)) from heap_alloc_new _ _)
  have HID := Lib.hid (show (Try.prog.info? 38).map (·.size) = some d.size by rw [hdz]; kernel_rfl)
  have HZD : Hid (VS.zero.c.size = d.size) := Lib.hid (by rw [hdz]; rfl)
  have HOD := Lib.hid hdone
  have hltx : bx < w5.heap.size := (Array.getElem?_eq_some_iff.1 HX5.out).1
  have HX6 := Lib.hid (show ((w5.alloc (.cells #[Value.int IntKind.u32 0, Value.int IntKind.u32 0, Value.int IntKind.u32 0, Value.int IntKind.u32 0, Value.int IntKind.u32 0, Value.int IntKind.u32 0, Value.int IntKind.u32 0, Value.bool false, Value.int IntKind.i64 0, Value.int IntKind.u32 0, Value.int IntKind.u32 0, Value.int IntKind.u32 0, Value.int IntKind.u16 0, Value.int IntKind.u16 0, Value.bool false, Value.int IntKind.i64 0, Value.int IntKind.u32 0, Value.int IntKind.u32 0, Value.int IntKind.u32 0, Value.int IntKind.u16 0, Value.int IntKind.u16 0] 38)).setRow w5.heap.size d).heap[bx]? = some (.cells c 38 (0, 0)) from (row_keep (by omega)).trans (heap_alloc_keep HX5.out))
  have HY6 := Lib.hid (show ((w5.alloc (.cells #[Value.int IntKind.u32 0, Value.int IntKind.u32 0, Value.int IntKind.u32 0, Value.int IntKind.u32 0, Value.int IntKind.u32 0, Value.int IntKind.u32 0, Value.int IntKind.u32 0, Value.bool false, Value.int IntKind.i64 0, Value.int IntKind.u32 0, Value.int IntKind.u32 0, Value.int IntKind.u32 0, Value.int IntKind.u16 0, Value.int IntKind.u16 0, Value.bool false, Value.int IntKind.i64 0, Value.int IntKind.u32 0, Value.int IntKind.u32 0, Value.int IntKind.u32 0, Value.int IntKind.u16 0, Value.int IntKind.u16 0] 38)).setRow w5.heap.size d).heap[w5.heap.size]? = some (.cells d 38 (0, 0)) from setRow_heap _ _ _ _ _ _ HZ5.out)
  have HB6 := Lib.hid (show Below w.heap.size w ((w5.alloc (.cells #[Value.int IntKind.u32 0, Value.int IntKind.u32 0, Value.int IntKind.u32 0, Value.int IntKind.u32 0, Value.int IntKind.u32 0, Value.int IntKind.u32 0, Value.int IntKind.u32 0, Value.bool false, Value.int IntKind.i64 0, Value.int IntKind.u32 0, Value.int IntKind.u32 0, Value.int IntKind.u32 0, Value.int IntKind.u16 0, Value.int IntKind.u16 0, Value.bool false, Value.int IntKind.i64 0, Value.int IntKind.u32 0, Value.int IntKind.u32 0, Value.int IntKind.u32 0, Value.int IntKind.u16 0, Value.int IntKind.u16 0] 38)).setRow w5.heap.size d) from below_setRow (HB5.out.alloc HB5.out.size _) HB5.out.size _)
  go_wp2_with (first | (refine wpList_store_row rfl 38 _ _ rfl w5.heap.size d rfl rfl 38 VS.zero.c HZ5.out HID.out HZD.out HOD.out ?_))
  generalize hby : w5.heap.size = byy at HY6
  rw [hby] at HX6 HB6
  generalize (w5.alloc (.cells #[Value.int IntKind.u32 0, Value.int IntKind.u32 0, Value.int IntKind.u32 0, Value.int IntKind.u32 0, Value.int IntKind.u32 0, Value.int IntKind.u32 0, Value.int IntKind.u32 0, Value.bool false, Value.int IntKind.i64 0, Value.int IntKind.u32 0, Value.int IntKind.u32 0, Value.int IntKind.u32 0, Value.int IntKind.u16 0, Value.int IntKind.u16 0, Value.bool false, Value.int IntKind.i64 0, Value.int IntKind.u32 0, Value.int IntKind.u32 0, Value.int IntKind.u32 0, Value.int IntKind.u16 0, Value.int IntKind.u16 0] 38)).setRow byy d = w6 at HX6 HY6 HB6 ⊢
  refine (HS.out _).mono ?_
  rintro e w4 ⟨rfl, hb4⟩
  go_wp2_with fail
  go_ret
  exact ⟨rfl, HB6.out.trans (hb4.mono HB6.out.size)⟩

set_option maxRecDepth 100000 in
set_option maxHeartbeats 4000000 in
theorem ready_ok14 (c d : Array Value) (at_ v : Nat) (n : Int) (w : World) (hcz : c.size = 21) (hone : c.all (·.oneCell') = true) (hdz : d.size = 21) (hdone : d.all (·.oneCell') = true)
    (HQ : Hid ((∃ q : VQ, (∀ j, j < 7 → c[7 + j]? = q.l[j]?) ∧ (q.rdy = true → ∀ j, j < 7 → d[7 + j]? = q.l[j]?)) ∧ (∃ q : VQ, (∀ j, j < 7 → c[14 + j]? = q.l[j]?) ∧ (q.rdy = true → ∀ j, j < 7 → d[14 + j]? = q.l[j]?))))
    (HG : Hid (∀ W, Calls Try.prog 5 #[.agg c] W fun e w' => e = .returned (.agg c) ∧ Below W.heap.size W w'))
    (HS : Hid (∀ W, Calls Try.prog 7 #[] W fun e w' => e = .returned (.bool true) ∧ Below W.heap.size W w'))
    (HC : Hid (∀ W, Calls Try.prog 6 #[.agg c] W fun e w' => e = .returned (.nilIface) ∧ Below W.heap.size W w'))
    (b68 : ((at_ : Int) == 68) = false) (b112 : ((at_ : Int) == 112) = false)
    (HW : Hid (∀ W, Calls Try.prog 8 #[.agg c, .int .u32 at_, .int .u32 v] W fun e w' => e = .returned (.tuple #[.agg d, .int .i64 n, .nilIface]) ∧ Below W.heap.size W w')) :
    Calls Try.prog 4 #[.agg c, .int .u32 at_, .int .u32 v] w fun e w' => e = .returned (.bool true) ∧ Below w.heap.size w w' := by
  have HIC := Lib.hid (show (Try.prog.info? 38).map (·.size) = some c.size by rw [hcz]; kernel_rfl)
  have HIR := Lib.hid (show (Try.prog.info? 31).map (·.size) = some c.size by rw [hcz]; kernel_rfl)
  have HZC : Hid (VS.zero.c.size = c.size) := Lib.hid (by rw [hcz]; rfl)
  have HOC := Lib.hid hone
  have H0 := Lib.hid (show (w.alloc (.cells c 31)).heap[w.heap.size]? = some (.cells c 31 (0, 0)) from heap_alloc_new _ _)
  have HB0 := Lib.hid ((Below.refl w.heap.size w).alloc (Nat.le_refl _) (.cells c 31))
  clear hone
  go_enter Try.func4, Try.ntmps4
  go_wp2_with (refine wpList_load_row rfl 31 _ rfl w.heap.size rfl 31 c (0, 0) _ H0.out Try.underlying31 rfl HIR.out ?_)
  refine (HG.out _).mono ?_
  rintro e w1 ⟨rfl, hb⟩
  have HB1 := Lib.hid (HB0.out.trans (hb.mono HB0.out.size))
  have HZ1 := Lib.hid (show (w1.alloc (.cells VS.zero.c 38)).heap[w1.heap.size]? = some (.cells VS.zero.c 38 (0, 0)) from heap_alloc_new _ _)
  clear hb H0 HB0
  have HX1 := Lib.hid (show ((w1.alloc (.cells #[Value.int IntKind.u32 0, Value.int IntKind.u32 0, Value.int IntKind.u32 0, Value.int IntKind.u32 0, Value.int IntKind.u32 0, Value.int IntKind.u32 0, Value.int IntKind.u32 0, Value.bool false, Value.int IntKind.i64 0, Value.int IntKind.u32 0, Value.int IntKind.u32 0, Value.int IntKind.u32 0, Value.int IntKind.u16 0, Value.int IntKind.u16 0, Value.bool false, Value.int IntKind.i64 0, Value.int IntKind.u32 0, Value.int IntKind.u32 0, Value.int IntKind.u32 0, Value.int IntKind.u16 0, Value.int IntKind.u16 0] 38)).setRow w1.heap.size c).heap[w1.heap.size]? = some (.cells c 38 (0, 0)) from setRow_heap _ _ _ _ _ _ HZ1.out)
  have HBX := Lib.hid (show Below w.heap.size w ((w1.alloc (.cells #[Value.int IntKind.u32 0, Value.int IntKind.u32 0, Value.int IntKind.u32 0, Value.int IntKind.u32 0, Value.int IntKind.u32 0, Value.int IntKind.u32 0, Value.int IntKind.u32 0, Value.bool false, Value.int IntKind.i64 0, Value.int IntKind.u32 0, Value.int IntKind.u32 0, Value.int IntKind.u32 0, Value.int IntKind.u16 0, Value.int IntKind.u16 0, Value.bool false, Value.int IntKind.i64 0, Value.int IntKind.u32 0, Value.int IntKind.u32 0, Value.int IntKind.u32 0, Value.int IntKind.u16 0, Value.int IntKind.u16 0] 38)).setRow w1.heap.size c) from below_setRow (HB1.out.alloc HB1.out.size _) HB1.out.size _)
  go_wp2_with (first | (refine wpList_store_row rfl 38 _ _ rfl w1.heap.size c rfl rfl 38 VS.zero.c HZ1.out HIC.out HZC.out HOC.out ?_) | (refine load_rowW rfl 38 _ rfl w1.heap.size rfl 38 c (0, 0) _ HX1.out Try.underlying38 rfl HIC.out ?_))
  generalize hbx : w1.heap.size = bx at HX1
  have hbx2 : w.heap.size ≤ bx := by rw [← hbx]; exact HB1.out.size
  rw [hbx] at HBX
  generalize (w1.alloc (.cells #[Value.int IntKind.u32 0, Value.int IntKind.u32 0, Value.int IntKind.u32 0, Value.int IntKind.u32 0, Value.int IntKind.u32 0, Value.int IntKind.u32 0, Value.int IntKind.u32 0, Value.bool false, Value.int IntKind.i64 0, Value.int IntKind.u32 0, Value.int IntKind.u32 0, Value.int IntKind.u32 0, Value.int IntKind.u16 0, Value.int IntKind.u16 0, Value.bool false, Value.int IntKind.i64 0, Value.int IntKind.u32 0, Value.int IntKind.u32 0, Value.int IntKind.u32 0, Value.int IntKind.u16 0, Value.int IntKind.u16 0] 38)).setRow bx c = w2 at HX1 HBX ⊢
  clear HZ1 HB1 hbx
  refine (HC.out _).mono ?_
  rintro e w3 ⟨rfl, hb⟩
  have HX3 := Lib.hid (below_cells HX1.out hb)
  have HB3 := Lib.hid (HBX.out.trans (hb.mono HBX.out.size))
  clear hb HX1 HBX
  go_wp2_with (refine load_rowW rfl 38 _ rfl bx rfl 38 c (0, 0) _ HX3.out Try.underlying38 rfl HIC.out ?_)
  refine (HW.out _).mono ?_
  rintro e w5 ⟨rfl, hb⟩
  have HX5 := Lib.hid (below_cells HX3.out hb)
  have HB5 := Lib.hid (HB3.out.trans (hb.mono HB3.out.size))
  clear hb HX3 HB3
  have HZ5 := Lib.hid (show (w5.alloc (.cells VS.zero.c 38)).heap[w5.heap.size]? = some (.cells VS.zero.c 38 (0, 0)) from heap_alloc_new _ _)
  have HID := Lib.hid (show (Try.prog.info? 38).map (·.size) = some d.size by rw [hdz]; kernel_rfl)
  have HZD : Hid (VS.zero.c.size = d.size) := Lib.hid (by rw [hdz]; rfl)
  have HOD := Lib.hid hdone
  have hltx : bx < w5.heap.size := (Array.getElem?_eq_some_iff.1 HX5.out).1
  have HX6 := Lib.hid (show ((w5.alloc (.cells #[Value.int IntKind.u32 0, Value.int IntKind.u32 0, Value.int IntKind.u32 0, Value.int IntKind.u32 0, Value.int IntKind.u32 0, Value.int IntKind.u32 0, Value.int IntKind.u32 0, Value.bool false, Value.int IntKind.i64 0, Value.int IntKind.u32 0, Value.int IntKind.u32 0, Value.int IntKind.u32 0, Value.int IntKind.u16 0, Value.int IntKind.u16 0, Value.bool false, Value.int IntKind.i64 0, Value.int IntKind.u32 0, Value.int IntKind.u32 0, Value.int IntKind.u32 0, Value.int IntKind.u16 0, Value.int IntKind.u16 0] 38)).setRow w5.heap.size d).heap[bx]? = some (.cells c 38 (0, 0)) from (row_keep (by omega)).trans (heap_alloc_keep HX5.out))
  have HY6 := Lib.hid (show ((w5.alloc (.cells #[Value.int IntKind.u32 0, Value.int IntKind.u32 0, Value.int IntKind.u32 0, Value.int IntKind.u32 0, Value.int IntKind.u32 0, Value.int IntKind.u32 0, Value.int IntKind.u32 0, Value.bool false, Value.int IntKind.i64 0, Value.int IntKind.u32 0, Value.int IntKind.u32 0, Value.int IntKind.u32 0, Value.int IntKind.u16 0, Value.int IntKind.u16 0, Value.bool false, Value.int IntKind.i64 0, Value.int IntKind.u32 0, Value.int IntKind.u32 0, Value.int IntKind.u32 0, Value.int IntKind.u16 0, Value.int IntKind.u16 0] 38)).setRow w5.heap.size d).heap[w5.heap.size]? = some (.cells d 38 (0, 0)) from setRow_heap _ _ _ _ _ _ HZ5.out)
  have HB6 := Lib.hid (show Below w.heap.size w ((w5.alloc (.cells #[Value.int IntKind.u32 0, Value.int IntKind.u32 0, Value.int IntKind.u32 0, Value.int IntKind.u32 0, Value.int IntKind.u32 0, Value.int IntKind.u32 0, Value.int IntKind.u32 0, Value.bool false, Value.int IntKind.i64 0, Value.int IntKind.u32 0, Value.int IntKind.u32 0, Value.int IntKind.u32 0, Value.int IntKind.u16 0, Value.int IntKind.u16 0, Value.bool false, Value.int IntKind.i64 0, Value.int IntKind.u32 0, Value.int IntKind.u32 0, Value.int IntKind.u32 0, Value.int IntKind.u16 0, Value.int IntKind.u16 0] 38)).setRow w5.heap.size d) from below_setRow (HB5.out.alloc HB5.out.size _) HB5.out.size _)
  go_wp2_with (first | (refine wpList_store_row rfl 38 _ _ rfl w5.heap.size d rfl rfl 38 VS.zero.c HZ5.out HID.out HZD.out HOD.out ?_))
  generalize hby : w5.heap.size = byy at HY6
  rw [hby] at HX6 HB6
  generalize (w5.alloc (.cells #[Value.int IntKind.u32 0, Value.int IntKind.u32 0, Value.int IntKind.u32 0, Value.int IntKind.u32 0, Value.int IntKind.u32 0, Value.int IntKind.u32 0, Value.int IntKind.u32 0, Value.bool false, Value.int IntKind.i64 0, Value.int IntKind.u32 0, Value.int IntKind.u32 0, Value.int IntKind.u32 0, Value.int IntKind.u16 0, Value.int IntKind.u16 0, Value.bool false, Value.int IntKind.i64 0, Value.int IntKind.u32 0, Value.int IntKind.u32 0, Value.int IntKind.u32 0, Value.int IntKind.u16 0, Value.int IntKind.u16 0] 38)).setRow byy d = w6 at HX6 HY6 HB6 ⊢
  clear HX5 HB5 HZ5
  go_loopw [11] (fun i wr => ∃ k : Nat, k ≤ 2 ∧ i = .int .i64 k ∧ wr.heap[bx]? = some (.cells c 38 (0, 0)) ∧ wr.heap[byy]? = some (.cells d 38 (0, 0)) ∧ Below w.heap.size w wr) (fun i _ => 2 - (intOf i).toNat)
  case atStart => exact ⟨0, by omega, rfl, HX6.out, HY6.out, HB6.out⟩
  case round =>
    obtain ⟨k, hk2, rfl, rx, ry, rb⟩ := hrel
    have RX := Lib.hid rx
    have RY := Lib.hid ry
    have RB := Lib.hid rb
    clear rx ry rb HX6 HY6 HB6 HIC HIR HZC HOC HID HZD HOD
    obtain ⟨hqa, hqb⟩ := HQ.out
    by_cases hk : k = 2
    · subst hk
      go_wp2_with fail
      refine (HS.out _).mono ?_
      rintro e w4 ⟨rfl, hb4⟩
      go_wp2_with fail
      go_ret
      exact ⟨rfl, RB.out.trans (hb4.mono RB.out.size)⟩
    · obtain rfl | rfl : k = 0 ∨ k = 1 := by omega
      · obtain ⟨q, hq, hd⟩ := hqa
        cases hr : q.rdy with
        | false =>
          have e0 : wr.cell? ⟨bx, 7, none⟩ = some (.bool false) := (cell_of_row _ _ 7 _ _ _ RX.out).trans ((hq 0 (by omega)).trans (by rw [← hr]; rfl))
          clear hq hd hr
          go_wp2_with fail
          go_quiet (fail)
          go_wp2_with fail
          go_roundw
          case rel => exact ⟨1, by omega, rfl, RX.out, RY.out, below_drewN RB.out _⟩
          case measure => simp [intOf]
        | true =>
          replace hd := hd hr
          have e0 : wr.cell? ⟨bx, 7, none⟩ = some (.bool q.rdy) := (cell_of_row _ _ 7 _ _ _ RX.out).trans (hq 0 (by omega))
          have e1 : wr.cell? ⟨bx, 8, none⟩ = some (.int .i64 q.size) := (cell_of_row _ _ 8 _ _ _ RX.out).trans (hq 1 (by omega))
          have e2 : wr.cell? ⟨bx, 9, none⟩ = some (.int .u32 q.de) := (cell_of_row _ _ 9 _ _ _ RX.out).trans (hq 2 (by omega))
          have e3 : wr.cell? ⟨bx, 10, none⟩ = some (.int .u32 q.av) := (cell_of_row _ _ 10 _ _ _ RX.out).trans (hq 3 (by omega))
          have e4 : wr.cell? ⟨bx, 11, none⟩ = some (.int .u32 q.us) := (cell_of_row _ _ 11 _ _ _ RX.out).trans (hq 4 (by omega))
          have e5 : wr.cell? ⟨bx, 12, none⟩ = some (.int .u16 q.la) := (cell_of_row _ _ 12 _ _ _ RX.out).trans (hq 5 (by omega))
          have e6 : wr.cell? ⟨bx, 13, none⟩ = some (.int .u16 q.pu) := (cell_of_row _ _ 13 _ _ _ RX.out).trans (hq 6 (by omega))
          have f0 : wr.cell? ⟨byy, 7, none⟩ = some (.bool q.rdy) := (cell_of_row _ _ 7 _ _ _ RY.out).trans (hd 0 (by omega))
          have f1 : wr.cell? ⟨byy, 8, none⟩ = some (.int .i64 q.size) := (cell_of_row _ _ 8 _ _ _ RY.out).trans (hd 1 (by omega))
          have f2 : wr.cell? ⟨byy, 9, none⟩ = some (.int .u32 q.de) := (cell_of_row _ _ 9 _ _ _ RY.out).trans (hd 2 (by omega))
          have f3 : wr.cell? ⟨byy, 10, none⟩ = some (.int .u32 q.av) := (cell_of_row _ _ 10 _ _ _ RY.out).trans (hd 3 (by omega))
          have f4 : wr.cell? ⟨byy, 11, none⟩ = some (.int .u32 q.us) := (cell_of_row _ _ 11 _ _ _ RY.out).trans (hd 4 (by omega))
          have f5 : wr.cell? ⟨byy, 12, none⟩ = some (.int .u16 q.la) := (cell_of_row _ _ 12 _ _ _ RY.out).trans (hd 5 (by omega))
          have f6 : wr.cell? ⟨byy, 13, none⟩ = some (.int .u16 q.pu) := (cell_of_row _ _ 13 _ _ _ RY.out).trans (hd 6 (by omega))
          rw [hr] at e0 f0
          clear hq hd hr
          go_wp2_with fail
          go_quiet (fail)
          go_wp2_with fail
          go_roundw
          case rel => exact ⟨1, by omega, rfl, RX.out, RY.out, below_drewN RB.out _⟩
          case measure => simp [intOf]
      · obtain ⟨q, hq, hd⟩ := hqb
        cases hr : q.rdy with
        | false =>
          have e0 : wr.cell? ⟨bx, 14, none⟩ = some (.bool false) := (cell_of_row _ _ 14 _ _ _ RX.out).trans ((hq 0 (by omega)).trans (by rw [← hr]; rfl))
          clear hq hd hr
          go_wp2_with fail
          go_quiet (fail)
          go_wp2_with fail
          go_roundw
          case rel => exact ⟨2, by omega, rfl, RX.out, RY.out, below_drewN RB.out _⟩
          case measure => simp [intOf]
        | true =>
          replace hd := hd hr
          have e0 : wr.cell? ⟨bx, 14, none⟩ = some (.bool q.rdy) := (cell_of_row _ _ 14 _ _ _ RX.out).trans (hq 0 (by omega))
          have e1 : wr.cell? ⟨bx, 15, none⟩ = some (.int .i64 q.size) := (cell_of_row _ _ 15 _ _ _ RX.out).trans (hq 1 (by omega))
          have e2 : wr.cell? ⟨bx, 16, none⟩ = some (.int .u32 q.de) := (cell_of_row _ _ 16 _ _ _ RX.out).trans (hq 2 (by omega))
          have e3 : wr.cell? ⟨bx, 17, none⟩ = some (.int .u32 q.av) := (cell_of_row _ _ 17 _ _ _ RX.out).trans (hq 3 (by omega))
          have e4 : wr.cell? ⟨bx, 18, none⟩ = some (.int .u32 q.us) := (cell_of_row _ _ 18 _ _ _ RX.out).trans (hq 4 (by omega))
          have e5 : wr.cell? ⟨bx, 19, none⟩ = some (.int .u16 q.la) := (cell_of_row _ _ 19 _ _ _ RX.out).trans (hq 5 (by omega))
          have e6 : wr.cell? ⟨bx, 20, none⟩ = some (.int .u16 q.pu) := (cell_of_row _ _ 20 _ _ _ RX.out).trans (hq 6 (by omega))
          have f0 : wr.cell? ⟨byy, 14, none⟩ = some (.bool q.rdy) := (cell_of_row _ _ 14 _ _ _ RY.out).trans (hd 0 (by omega))
          have f1 : wr.cell? ⟨byy, 15, none⟩ = some (.int .i64 q.size) := (cell_of_row _ _ 15 _ _ _ RY.out).trans (hd 1 (by omega))
          have f2 : wr.cell? ⟨byy, 16, none⟩ = some (.int .u32 q.de) := (cell_of_row _ _ 16 _ _ _ RY.out).trans (hd 2 (by omega))
          have f3 : wr.cell? ⟨byy, 17, none⟩ = some (.int .u32 q.av) := (cell_of_row _ _ 17 _ _ _ RY.out).trans (hd 3 (by omega))
          have f4 : wr.cell? ⟨byy, 18, none⟩ = some (.int .u32 q.us) := (cell_of_row _ _ 18 _ _ _ RY.out).trans (hd 4 (by omega))
          have f5 : wr.cell? ⟨byy, 19, none⟩ = some (.int .u16 q.la) := (cell_of_row _ _ 19 _ _ _ RY.out).trans (hd 5 (by omega))
          have f6 : wr.cell? ⟨byy, 20, none⟩ = some (.int .u16 q.pu) := (cell_of_row _ _ 20 _ _ _ RY.out).trans (hd 6 (by omega))
          rw [hr] at e0 f0
          clear hq hd hr
          go_wp2_with fail
          go_quiet (fail)
          go_wp2_with fail
          go_roundw
          case rel => exact ⟨2, by omega, rfl, RX.out, RY.out, below_drewN RB.out _⟩
          case measure => simp [intOf]

theorem law14_VirtioReady (s : VS) (hs : s.wf) (at_ v : Nat) (hv : v < 4294967296) (w : World) :
    Calls Try.prog 4 #[s.v, .int .u32 at_, .int .u32 v] w fun e w' => e = .returned (.bool true) ∧ Below w.heap.size w w' := by
  have HG := Lib.hid (give_port s)
  have HS := Lib.hid law14_sure
  have HC := Lib.hid (vs_Check s hs.hst)
  have HW := Lib.hid (vs_Write s at_ v hs hv)
  by_cases hok : s.ok
  · rw [if_pos hok] at HC
    have HCN : Hid (∀ W, Calls Try.prog 6 #[.agg s.c] W fun e w' => e = .returned .nilIface ∧ Below W.heap.size W w') := HC
    by_cases h68 : at_ = 68
    · subst h68; exact ready_68 s.c v w rfl s.c_one HG HS HCN
    by_cases h112 : at_ = 112
    · subst h112; exact ready_112 s.c v w rfl s.c_one HG HS HCN
    by_cases hb : badN s at_ = 0
    · have eV : vioV s at_ v = .tuple #[(s.write at_ v).v, .int .i64 (s.told at_ v), .nilIface] := if_pos hb
      rw [eV] at HW
      obtain ⟨k1, k2⟩ := write_keeps s at_ v h68 h112
      refine ready_ok14 s.c (s.write at_ v).c at_ v (s.told at_ v) w rfl s.c_one rfl (VS.c_one _) (Lib.hid ⟨⟨s.a, s.qa', fun hr => ?_⟩, ⟨s.b, s.qb', fun hr => ?_⟩⟩) HG HS HCN (beq_ne h68) (beq_ne h112) HW
      · rw [← k1 hr]; exact (s.write at_ v).qa'
      · rw [← k2 hr]; exact (s.write at_ v).qb'
    · have eV : vioV s at_ v = .tuple #[VS.zero.v, .int .i64 (-1), errV (badN s at_)] := if_neg hb
      have eE : errV (badN s at_) = .iface 51 (.int .i64 (badN s at_ : Nat)) := if_neg hb
      rw [eV, eE] at HW
      exact ready_werr s.c VS.zero.c at_ v _ _ w rfl s.c_one rfl (VS.c_one _) HG HS HCN (beq_ne h68) (beq_ne h112) HW
  · rw [if_neg hok] at HC
    have HCE : Hid (∀ W, Calls Try.prog 6 #[.agg s.c] W fun e w' => e = .returned (.iface 51 (.int .i64 (1 : Nat))) ∧ Below W.heap.size W w') := HC
    exact ready_err s.c at_ v 1 w rfl s.c_one HG HS HCE

end Go.Proofs.Ytenafjdlaefepaa
