/-
pinnaceref14.Read, walked: any register of any state.
No condition.
-/
import Derived.Test.YtcbjlpkkebcmjaaDoorRef14C
import Derived.Test.YtcbjlpkkebcmjaaDoorVRead
namespace Go.Proofs.YtcbjlpkkebcmjaaDoor
open Go.RowKit
set_option linter.unusedVariables false

set_option maxRecDepth 100000 in
set_option maxHeartbeats 4000000 in
theorem ref14_Read_a0 (s : VS) (id : Nat) (w : World)
    (HB : Hid (∀ W, Calls Tryd.prog 27 #[.agg s.c] W fun e w' => e = .returned (.int .i64 0) ∧ Below W.heap.size W w')) :
    Calls Tryd.prog 24 #[.agg s.c, .int .u32 id, .int .u32 0] w fun e w' => e = .returned (.tuple #[.int .u32 1953655158, .int .i64 0]) ∧ Below w.heap.size w w' := by
  have K0 := Lib.hid (heap_alloc_new w (.cells s.c 57))
  have HB0 := Lib.hid ((Below.refl w.heap.size w).alloc (Nat.le_refl _) (.cells s.c 57))
  have HI := Lib.hid (show (Tryd.prog.info? 57).map (·.size) = some s.c.size by kernel_rfl)
  go_enter Tryd.func24, Tryd.ntmps24
  go_wp2_with (refine wpList_load_row rfl 57 _ rfl w.heap.size rfl 57 s.c (0, 0) _ K0.out Tryd.underlying57 rfl HI.out ?_)
  refine (HB.out _).mono ?_
  rintro e w1 ⟨rfl, hb⟩
  have K1 := Lib.hid (keepB K0.out hb)
  have HB1 := Lib.hid (HB0.out.trans (hb.mono HB0.out.size))
  clear hb K0 HB0 HB
  have c0 := (cell_of_row _ _ 0 _ _ _ K1.out).trans (rfl : _ = some (.int .u32 s.st : Value))
  have c1 := (cell_of_row _ _ 1 _ _ _ K1.out).trans (rfl : _ = some (.int .u32 s.fs : Value))
  have c3 := (cell_of_row _ _ 3 _ _ _ K1.out).trans (rfl : _ = some (.int .u32 s.se : Value))
  have c4 := (cell_of_row _ _ 4 _ _ _ K1.out).trans (rfl : _ = some (.int .u32 s.irq : Value))
  have c7 := (cell_of_row _ _ 7 _ _ _ K1.out).trans (rfl : _ = some (.bool s.a.rdy : Value))
  have c14 := (cell_of_row _ _ 14 _ _ _ K1.out).trans (rfl : _ = some (.bool s.b.rdy : Value))
  go_wp2_with fail
  go_ret2
  exact ⟨rfl, HB1.out⟩
set_option maxRecDepth 100000 in
set_option maxHeartbeats 4000000 in
theorem ref14_Read_a4 (s : VS) (id : Nat) (w : World)
    (HB : Hid (∀ W, Calls Tryd.prog 27 #[.agg s.c] W fun e w' => e = .returned (.int .i64 0) ∧ Below W.heap.size W w')) :
    Calls Tryd.prog 24 #[.agg s.c, .int .u32 id, .int .u32 4] w fun e w' => e = .returned (.tuple #[.int .u32 2, .int .i64 0]) ∧ Below w.heap.size w w' := by
  have K0 := Lib.hid (heap_alloc_new w (.cells s.c 57))
  have HB0 := Lib.hid ((Below.refl w.heap.size w).alloc (Nat.le_refl _) (.cells s.c 57))
  have HI := Lib.hid (show (Tryd.prog.info? 57).map (·.size) = some s.c.size by kernel_rfl)
  go_enter Tryd.func24, Tryd.ntmps24
  go_wp2_with (refine wpList_load_row rfl 57 _ rfl w.heap.size rfl 57 s.c (0, 0) _ K0.out Tryd.underlying57 rfl HI.out ?_)
  refine (HB.out _).mono ?_
  rintro e w1 ⟨rfl, hb⟩
  have K1 := Lib.hid (keepB K0.out hb)
  have HB1 := Lib.hid (HB0.out.trans (hb.mono HB0.out.size))
  clear hb K0 HB0 HB
  have c0 := (cell_of_row _ _ 0 _ _ _ K1.out).trans (rfl : _ = some (.int .u32 s.st : Value))
  have c1 := (cell_of_row _ _ 1 _ _ _ K1.out).trans (rfl : _ = some (.int .u32 s.fs : Value))
  have c3 := (cell_of_row _ _ 3 _ _ _ K1.out).trans (rfl : _ = some (.int .u32 s.se : Value))
  have c4 := (cell_of_row _ _ 4 _ _ _ K1.out).trans (rfl : _ = some (.int .u32 s.irq : Value))
  have c7 := (cell_of_row _ _ 7 _ _ _ K1.out).trans (rfl : _ = some (.bool s.a.rdy : Value))
  have c14 := (cell_of_row _ _ 14 _ _ _ K1.out).trans (rfl : _ = some (.bool s.b.rdy : Value))
  go_wp2_with fail
  go_ret2
  exact ⟨rfl, HB1.out⟩
set_option maxRecDepth 100000 in
set_option maxHeartbeats 4000000 in
theorem ref14_Read_a8 (s : VS) (id : Nat) (w : World)
    (HB : Hid (∀ W, Calls Tryd.prog 27 #[.agg s.c] W fun e w' => e = .returned (.int .i64 0) ∧ Below W.heap.size W w')) :
    Calls Tryd.prog 24 #[.agg s.c, .int .u32 id, .int .u32 8] w fun e w' => e = .returned (.tuple #[.int .u32 id, .int .i64 0]) ∧ Below w.heap.size w w' := by
  have K0 := Lib.hid (heap_alloc_new w (.cells s.c 57))
  have HB0 := Lib.hid ((Below.refl w.heap.size w).alloc (Nat.le_refl _) (.cells s.c 57))
  have HI := Lib.hid (show (Tryd.prog.info? 57).map (·.size) = some s.c.size by kernel_rfl)
  go_enter Tryd.func24, Tryd.ntmps24
  go_wp2_with (refine wpList_load_row rfl 57 _ rfl w.heap.size rfl 57 s.c (0, 0) _ K0.out Tryd.underlying57 rfl HI.out ?_)
  refine (HB.out _).mono ?_
  rintro e w1 ⟨rfl, hb⟩
  have K1 := Lib.hid (keepB K0.out hb)
  have HB1 := Lib.hid (HB0.out.trans (hb.mono HB0.out.size))
  clear hb K0 HB0 HB
  have c0 := (cell_of_row _ _ 0 _ _ _ K1.out).trans (rfl : _ = some (.int .u32 s.st : Value))
  have c1 := (cell_of_row _ _ 1 _ _ _ K1.out).trans (rfl : _ = some (.int .u32 s.fs : Value))
  have c3 := (cell_of_row _ _ 3 _ _ _ K1.out).trans (rfl : _ = some (.int .u32 s.se : Value))
  have c4 := (cell_of_row _ _ 4 _ _ _ K1.out).trans (rfl : _ = some (.int .u32 s.irq : Value))
  have c7 := (cell_of_row _ _ 7 _ _ _ K1.out).trans (rfl : _ = some (.bool s.a.rdy : Value))
  have c14 := (cell_of_row _ _ 14 _ _ _ K1.out).trans (rfl : _ = some (.bool s.b.rdy : Value))
  go_wp2_with fail
  go_ret2
  exact ⟨rfl, HB1.out⟩
set_option maxRecDepth 100000 in
set_option maxHeartbeats 4000000 in
theorem ref14_Read_a12 (s : VS) (id : Nat) (w : World)
    (HB : Hid (∀ W, Calls Tryd.prog 27 #[.agg s.c] W fun e w' => e = .returned (.int .i64 0) ∧ Below W.heap.size W w')) :
    Calls Tryd.prog 24 #[.agg s.c, .int .u32 id, .int .u32 12] w fun e w' => e = .returned (.tuple #[.int .u32 1347305795, .int .i64 0]) ∧ Below w.heap.size w w' := by
  have K0 := Lib.hid (heap_alloc_new w (.cells s.c 57))
  have HB0 := Lib.hid ((Below.refl w.heap.size w).alloc (Nat.le_refl _) (.cells s.c 57))
  have HI := Lib.hid (show (Tryd.prog.info? 57).map (·.size) = some s.c.size by kernel_rfl)
  go_enter Tryd.func24, Tryd.ntmps24
  go_wp2_with (refine wpList_load_row rfl 57 _ rfl w.heap.size rfl 57 s.c (0, 0) _ K0.out Tryd.underlying57 rfl HI.out ?_)
  refine (HB.out _).mono ?_
  rintro e w1 ⟨rfl, hb⟩
  have K1 := Lib.hid (keepB K0.out hb)
  have HB1 := Lib.hid (HB0.out.trans (hb.mono HB0.out.size))
  clear hb K0 HB0 HB
  have c0 := (cell_of_row _ _ 0 _ _ _ K1.out).trans (rfl : _ = some (.int .u32 s.st : Value))
  have c1 := (cell_of_row _ _ 1 _ _ _ K1.out).trans (rfl : _ = some (.int .u32 s.fs : Value))
  have c3 := (cell_of_row _ _ 3 _ _ _ K1.out).trans (rfl : _ = some (.int .u32 s.se : Value))
  have c4 := (cell_of_row _ _ 4 _ _ _ K1.out).trans (rfl : _ = some (.int .u32 s.irq : Value))
  have c7 := (cell_of_row _ _ 7 _ _ _ K1.out).trans (rfl : _ = some (.bool s.a.rdy : Value))
  have c14 := (cell_of_row _ _ 14 _ _ _ K1.out).trans (rfl : _ = some (.bool s.b.rdy : Value))
  go_wp2_with fail
  go_ret2
  exact ⟨rfl, HB1.out⟩
set_option maxRecDepth 100000 in
set_option maxHeartbeats 4000000 in
theorem ref14_Read_a96 (s : VS) (id : Nat) (w : World)
    (HB : Hid (∀ W, Calls Tryd.prog 27 #[.agg s.c] W fun e w' => e = .returned (.int .i64 0) ∧ Below W.heap.size W w')) :
    Calls Tryd.prog 24 #[.agg s.c, .int .u32 id, .int .u32 96] w fun e w' => e = .returned (.tuple #[.int .u32 s.irq, .int .i64 0]) ∧ Below w.heap.size w w' := by
  have K0 := Lib.hid (heap_alloc_new w (.cells s.c 57))
  have HB0 := Lib.hid ((Below.refl w.heap.size w).alloc (Nat.le_refl _) (.cells s.c 57))
  have HI := Lib.hid (show (Tryd.prog.info? 57).map (·.size) = some s.c.size by kernel_rfl)
  go_enter Tryd.func24, Tryd.ntmps24
  go_wp2_with (refine wpList_load_row rfl 57 _ rfl w.heap.size rfl 57 s.c (0, 0) _ K0.out Tryd.underlying57 rfl HI.out ?_)
  refine (HB.out _).mono ?_
  rintro e w1 ⟨rfl, hb⟩
  have K1 := Lib.hid (keepB K0.out hb)
  have HB1 := Lib.hid (HB0.out.trans (hb.mono HB0.out.size))
  clear hb K0 HB0 HB
  have c0 := (cell_of_row _ _ 0 _ _ _ K1.out).trans (rfl : _ = some (.int .u32 s.st : Value))
  have c1 := (cell_of_row _ _ 1 _ _ _ K1.out).trans (rfl : _ = some (.int .u32 s.fs : Value))
  have c3 := (cell_of_row _ _ 3 _ _ _ K1.out).trans (rfl : _ = some (.int .u32 s.se : Value))
  have c4 := (cell_of_row _ _ 4 _ _ _ K1.out).trans (rfl : _ = some (.int .u32 s.irq : Value))
  have c7 := (cell_of_row _ _ 7 _ _ _ K1.out).trans (rfl : _ = some (.bool s.a.rdy : Value))
  have c14 := (cell_of_row _ _ 14 _ _ _ K1.out).trans (rfl : _ = some (.bool s.b.rdy : Value))
  go_wp2_with fail
  go_ret2
  exact ⟨rfl, HB1.out⟩
set_option maxRecDepth 100000 in
set_option maxHeartbeats 4000000 in
theorem ref14_Read_a112 (s : VS) (id : Nat) (w : World)
    (HB : Hid (∀ W, Calls Tryd.prog 27 #[.agg s.c] W fun e w' => e = .returned (.int .i64 0) ∧ Below W.heap.size W w')) :
    Calls Tryd.prog 24 #[.agg s.c, .int .u32 id, .int .u32 112] w fun e w' => e = .returned (.tuple #[.int .u32 s.st, .int .i64 0]) ∧ Below w.heap.size w w' := by
  have K0 := Lib.hid (heap_alloc_new w (.cells s.c 57))
  have HB0 := Lib.hid ((Below.refl w.heap.size w).alloc (Nat.le_refl _) (.cells s.c 57))
  have HI := Lib.hid (show (Tryd.prog.info? 57).map (·.size) = some s.c.size by kernel_rfl)
  go_enter Tryd.func24, Tryd.ntmps24
  go_wp2_with (refine wpList_load_row rfl 57 _ rfl w.heap.size rfl 57 s.c (0, 0) _ K0.out Tryd.underlying57 rfl HI.out ?_)
  refine (HB.out _).mono ?_
  rintro e w1 ⟨rfl, hb⟩
  have K1 := Lib.hid (keepB K0.out hb)
  have HB1 := Lib.hid (HB0.out.trans (hb.mono HB0.out.size))
  clear hb K0 HB0 HB
  have c0 := (cell_of_row _ _ 0 _ _ _ K1.out).trans (rfl : _ = some (.int .u32 s.st : Value))
  have c1 := (cell_of_row _ _ 1 _ _ _ K1.out).trans (rfl : _ = some (.int .u32 s.fs : Value))
  have c3 := (cell_of_row _ _ 3 _ _ _ K1.out).trans (rfl : _ = some (.int .u32 s.se : Value))
  have c4 := (cell_of_row _ _ 4 _ _ _ K1.out).trans (rfl : _ = some (.int .u32 s.irq : Value))
  have c7 := (cell_of_row _ _ 7 _ _ _ K1.out).trans (rfl : _ = some (.bool s.a.rdy : Value))
  have c14 := (cell_of_row _ _ 14 _ _ _ K1.out).trans (rfl : _ = some (.bool s.b.rdy : Value))
  go_wp2_with fail
  go_ret2
  exact ⟨rfl, HB1.out⟩
set_option maxRecDepth 100000 in
set_option maxHeartbeats 4000000 in
theorem ref14_Read_a16y (s : VS) (id : Nat) (w : World) (h : s.fs = 1)
    (HB : Hid (∀ W, Calls Tryd.prog 27 #[.agg s.c] W fun e w' => e = .returned (.int .i64 0) ∧ Below W.heap.size W w')) :
    Calls Tryd.prog 24 #[.agg s.c, .int .u32 id, .int .u32 16] w fun e w' => e = .returned (.tuple #[.int .u32 1, .int .i64 0]) ∧ Below w.heap.size w w' := by
  have K0 := Lib.hid (heap_alloc_new w (.cells s.c 57))
  have HB0 := Lib.hid ((Below.refl w.heap.size w).alloc (Nat.le_refl _) (.cells s.c 57))
  have HI := Lib.hid (show (Tryd.prog.info? 57).map (·.size) = some s.c.size by kernel_rfl)
  go_enter Tryd.func24, Tryd.ntmps24
  go_wp2_with (refine wpList_load_row rfl 57 _ rfl w.heap.size rfl 57 s.c (0, 0) _ K0.out Tryd.underlying57 rfl HI.out ?_)
  refine (HB.out _).mono ?_
  rintro e w1 ⟨rfl, hb⟩
  have K1 := Lib.hid (keepB K0.out hb)
  have HB1 := Lib.hid (HB0.out.trans (hb.mono HB0.out.size))
  clear hb K0 HB0 HB
  have c0 := (cell_of_row _ _ 0 _ _ _ K1.out).trans (rfl : _ = some (.int .u32 s.st : Value))
  have c1 := (cell_of_row _ _ 1 _ _ _ K1.out).trans (rfl : _ = some (.int .u32 s.fs : Value))
  have c3 := (cell_of_row _ _ 3 _ _ _ K1.out).trans (rfl : _ = some (.int .u32 s.se : Value))
  have c4 := (cell_of_row _ _ 4 _ _ _ K1.out).trans (rfl : _ = some (.int .u32 s.irq : Value))
  have c7 := (cell_of_row _ _ 7 _ _ _ K1.out).trans (rfl : _ = some (.bool s.a.rdy : Value))
  have c14 := (cell_of_row _ _ 14 _ _ _ K1.out).trans (rfl : _ = some (.bool s.b.rdy : Value))
  have e1 : ((s.fs : Int) == 1) = true := by simp; omega
  go_wp2_with fail
  go_ret2
  exact ⟨rfl, HB1.out⟩
set_option maxRecDepth 100000 in
set_option maxHeartbeats 4000000 in
theorem ref14_Read_a16n (s : VS) (id : Nat) (w : World) (h : ¬ s.fs = 1)
    (HB : Hid (∀ W, Calls Tryd.prog 27 #[.agg s.c] W fun e w' => e = .returned (.int .i64 0) ∧ Below W.heap.size W w')) :
    Calls Tryd.prog 24 #[.agg s.c, .int .u32 id, .int .u32 16] w fun e w' => e = .returned (.tuple #[.int .u32 0, .int .i64 0]) ∧ Below w.heap.size w w' := by
  have K0 := Lib.hid (heap_alloc_new w (.cells s.c 57))
  have HB0 := Lib.hid ((Below.refl w.heap.size w).alloc (Nat.le_refl _) (.cells s.c 57))
  have HI := Lib.hid (show (Tryd.prog.info? 57).map (·.size) = some s.c.size by kernel_rfl)
  go_enter Tryd.func24, Tryd.ntmps24
  go_wp2_with (refine wpList_load_row rfl 57 _ rfl w.heap.size rfl 57 s.c (0, 0) _ K0.out Tryd.underlying57 rfl HI.out ?_)
  refine (HB.out _).mono ?_
  rintro e w1 ⟨rfl, hb⟩
  have K1 := Lib.hid (keepB K0.out hb)
  have HB1 := Lib.hid (HB0.out.trans (hb.mono HB0.out.size))
  clear hb K0 HB0 HB
  have c0 := (cell_of_row _ _ 0 _ _ _ K1.out).trans (rfl : _ = some (.int .u32 s.st : Value))
  have c1 := (cell_of_row _ _ 1 _ _ _ K1.out).trans (rfl : _ = some (.int .u32 s.fs : Value))
  have c3 := (cell_of_row _ _ 3 _ _ _ K1.out).trans (rfl : _ = some (.int .u32 s.se : Value))
  have c4 := (cell_of_row _ _ 4 _ _ _ K1.out).trans (rfl : _ = some (.int .u32 s.irq : Value))
  have c7 := (cell_of_row _ _ 7 _ _ _ K1.out).trans (rfl : _ = some (.bool s.a.rdy : Value))
  have c14 := (cell_of_row _ _ 14 _ _ _ K1.out).trans (rfl : _ = some (.bool s.b.rdy : Value))
  have e1 : ((s.fs : Int) == 1) = false := by simp; omega
  go_wp2_with fail
  go_ret2
  exact ⟨rfl, HB1.out⟩
set_option maxRecDepth 100000 in
set_option maxHeartbeats 4000000 in
theorem ref14_Read_a52y (s : VS) (id : Nat) (w : World) (h : s.se < 2)
    (HB : Hid (∀ W, Calls Tryd.prog 27 #[.agg s.c] W fun e w' => e = .returned (.int .i64 0) ∧ Below W.heap.size W w')) :
    Calls Tryd.prog 24 #[.agg s.c, .int .u32 id, .int .u32 52] w fun e w' => e = .returned (.tuple #[.int .u32 256, .int .i64 0]) ∧ Below w.heap.size w w' := by
  have K0 := Lib.hid (heap_alloc_new w (.cells s.c 57))
  have HB0 := Lib.hid ((Below.refl w.heap.size w).alloc (Nat.le_refl _) (.cells s.c 57))
  have HI := Lib.hid (show (Tryd.prog.info? 57).map (·.size) = some s.c.size by kernel_rfl)
  go_enter Tryd.func24, Tryd.ntmps24
  go_wp2_with (refine wpList_load_row rfl 57 _ rfl w.heap.size rfl 57 s.c (0, 0) _ K0.out Tryd.underlying57 rfl HI.out ?_)
  refine (HB.out _).mono ?_
  rintro e w1 ⟨rfl, hb⟩
  have K1 := Lib.hid (keepB K0.out hb)
  have HB1 := Lib.hid (HB0.out.trans (hb.mono HB0.out.size))
  clear hb K0 HB0 HB
  have c0 := (cell_of_row _ _ 0 _ _ _ K1.out).trans (rfl : _ = some (.int .u32 s.st : Value))
  have c1 := (cell_of_row _ _ 1 _ _ _ K1.out).trans (rfl : _ = some (.int .u32 s.fs : Value))
  have c3 := (cell_of_row _ _ 3 _ _ _ K1.out).trans (rfl : _ = some (.int .u32 s.se : Value))
  have c4 := (cell_of_row _ _ 4 _ _ _ K1.out).trans (rfl : _ = some (.int .u32 s.irq : Value))
  have c7 := (cell_of_row _ _ 7 _ _ _ K1.out).trans (rfl : _ = some (.bool s.a.rdy : Value))
  have c14 := (cell_of_row _ _ 14 _ _ _ K1.out).trans (rfl : _ = some (.bool s.b.rdy : Value))
  have e1 : decide ((s.se : Int) < 2) = true := by simp; omega
  go_wp2_with fail
  go_ret2
  exact ⟨rfl, HB1.out⟩
set_option maxRecDepth 100000 in
set_option maxHeartbeats 4000000 in
theorem ref14_Read_a52n (s : VS) (id : Nat) (w : World) (h : ¬ s.se < 2)
    (HB : Hid (∀ W, Calls Tryd.prog 27 #[.agg s.c] W fun e w' => e = .returned (.int .i64 0) ∧ Below W.heap.size W w')) :
    Calls Tryd.prog 24 #[.agg s.c, .int .u32 id, .int .u32 52] w fun e w' => e = .returned (.tuple #[.int .u32 0, .int .i64 0]) ∧ Below w.heap.size w w' := by
  have K0 := Lib.hid (heap_alloc_new w (.cells s.c 57))
  have HB0 := Lib.hid ((Below.refl w.heap.size w).alloc (Nat.le_refl _) (.cells s.c 57))
  have HI := Lib.hid (show (Tryd.prog.info? 57).map (·.size) = some s.c.size by kernel_rfl)
  go_enter Tryd.func24, Tryd.ntmps24
  go_wp2_with (refine wpList_load_row rfl 57 _ rfl w.heap.size rfl 57 s.c (0, 0) _ K0.out Tryd.underlying57 rfl HI.out ?_)
  refine (HB.out _).mono ?_
  rintro e w1 ⟨rfl, hb⟩
  have K1 := Lib.hid (keepB K0.out hb)
  have HB1 := Lib.hid (HB0.out.trans (hb.mono HB0.out.size))
  clear hb K0 HB0 HB
  have c0 := (cell_of_row _ _ 0 _ _ _ K1.out).trans (rfl : _ = some (.int .u32 s.st : Value))
  have c1 := (cell_of_row _ _ 1 _ _ _ K1.out).trans (rfl : _ = some (.int .u32 s.fs : Value))
  have c3 := (cell_of_row _ _ 3 _ _ _ K1.out).trans (rfl : _ = some (.int .u32 s.se : Value))
  have c4 := (cell_of_row _ _ 4 _ _ _ K1.out).trans (rfl : _ = some (.int .u32 s.irq : Value))
  have c7 := (cell_of_row _ _ 7 _ _ _ K1.out).trans (rfl : _ = some (.bool s.a.rdy : Value))
  have c14 := (cell_of_row _ _ 14 _ _ _ K1.out).trans (rfl : _ = some (.bool s.b.rdy : Value))
  have e1 : decide ((s.se : Int) < 2) = false := by simp; omega
  go_wp2_with fail
  go_ret2
  exact ⟨rfl, HB1.out⟩
set_option maxRecDepth 100000 in
set_option maxHeartbeats 4000000 in
theorem ref14_Read_a68n (s : VS) (id : Nat) (w : World) (h : ¬ s.se < 2)
    (HB : Hid (∀ W, Calls Tryd.prog 27 #[.agg s.c] W fun e w' => e = .returned (.int .i64 0) ∧ Below W.heap.size W w')) :
    Calls Tryd.prog 24 #[.agg s.c, .int .u32 id, .int .u32 68] w fun e w' => e = .returned (.tuple #[.int .u32 0, .int .i64 0]) ∧ Below w.heap.size w w' := by
  have K0 := Lib.hid (heap_alloc_new w (.cells s.c 57))
  have HB0 := Lib.hid ((Below.refl w.heap.size w).alloc (Nat.le_refl _) (.cells s.c 57))
  have HI := Lib.hid (show (Tryd.prog.info? 57).map (·.size) = some s.c.size by kernel_rfl)
  go_enter Tryd.func24, Tryd.ntmps24
  go_wp2_with (refine wpList_load_row rfl 57 _ rfl w.heap.size rfl 57 s.c (0, 0) _ K0.out Tryd.underlying57 rfl HI.out ?_)
  refine (HB.out _).mono ?_
  rintro e w1 ⟨rfl, hb⟩
  have K1 := Lib.hid (keepB K0.out hb)
  have HB1 := Lib.hid (HB0.out.trans (hb.mono HB0.out.size))
  clear hb K0 HB0 HB
  have c0 := (cell_of_row _ _ 0 _ _ _ K1.out).trans (rfl : _ = some (.int .u32 s.st : Value))
  have c1 := (cell_of_row _ _ 1 _ _ _ K1.out).trans (rfl : _ = some (.int .u32 s.fs : Value))
  have c3 := (cell_of_row _ _ 3 _ _ _ K1.out).trans (rfl : _ = some (.int .u32 s.se : Value))
  have c4 := (cell_of_row _ _ 4 _ _ _ K1.out).trans (rfl : _ = some (.int .u32 s.irq : Value))
  have c7 := (cell_of_row _ _ 7 _ _ _ K1.out).trans (rfl : _ = some (.bool s.a.rdy : Value))
  have c14 := (cell_of_row _ _ 14 _ _ _ K1.out).trans (rfl : _ = some (.bool s.b.rdy : Value))
  have e1 : decide ((s.se : Int) < 2) = false := by simp; omega
  have e2 : ((s.se : Int) == 0) = false := by simp; omega
  have e3 : ((s.se : Int) == 1) = false := by simp; omega
  go_wp2_with fail
  go_ret2
  exact ⟨rfl, HB1.out⟩
set_option maxRecDepth 100000 in
set_option maxHeartbeats 4000000 in
theorem ref14_Read_a68a (s : VS) (id : Nat) (w : World) (h : s.se = 0) (b : Bool) (hr : s.a.rdy = b)
    (HB : Hid (∀ W, Calls Tryd.prog 27 #[.agg s.c] W fun e w' => e = .returned (.int .i64 0) ∧ Below W.heap.size W w')) :
    Calls Tryd.prog 24 #[.agg s.c, .int .u32 id, .int .u32 68] w fun e w' => e = .returned (.tuple #[.int .u32 ((if b = true then 1 else 0 : Nat) : Int), .int .i64 0]) ∧ Below w.heap.size w w' := by
  have K0 := Lib.hid (heap_alloc_new w (.cells s.c 57))
  have HB0 := Lib.hid ((Below.refl w.heap.size w).alloc (Nat.le_refl _) (.cells s.c 57))
  have HI := Lib.hid (show (Tryd.prog.info? 57).map (·.size) = some s.c.size by kernel_rfl)
  go_enter Tryd.func24, Tryd.ntmps24
  go_wp2_with (refine wpList_load_row rfl 57 _ rfl w.heap.size rfl 57 s.c (0, 0) _ K0.out Tryd.underlying57 rfl HI.out ?_)
  refine (HB.out _).mono ?_
  rintro e w1 ⟨rfl, hb⟩
  have K1 := Lib.hid (keepB K0.out hb)
  have HB1 := Lib.hid (HB0.out.trans (hb.mono HB0.out.size))
  clear hb K0 HB0 HB
  have c0 := (cell_of_row _ _ 0 _ _ _ K1.out).trans (rfl : _ = some (.int .u32 s.st : Value))
  have c1 := (cell_of_row _ _ 1 _ _ _ K1.out).trans (rfl : _ = some (.int .u32 s.fs : Value))
  have c3 := (cell_of_row _ _ 3 _ _ _ K1.out).trans (rfl : _ = some (.int .u32 s.se : Value))
  have c4 := (cell_of_row _ _ 4 _ _ _ K1.out).trans (rfl : _ = some (.int .u32 s.irq : Value))
  have c7 := (cell_of_row _ _ 7 _ _ _ K1.out).trans (rfl : _ = some (.bool s.a.rdy : Value))
  have c14 := (cell_of_row _ _ 14 _ _ _ K1.out).trans (rfl : _ = some (.bool s.b.rdy : Value))
  rw [h] at c3
  rw [hr] at c7
  rw [show ((0 : Nat) : Int) = 0 from rfl] at c3
  clear h hr
  cases b
  all_goals
    go_wp2_with fail
    go_ret2
    exact ⟨rfl, HB1.out⟩
set_option maxRecDepth 100000 in
set_option maxHeartbeats 4000000 in
theorem ref14_Read_a68b (s : VS) (id : Nat) (w : World) (h : s.se = 1) (b : Bool) (hr : s.b.rdy = b)
    (HB : Hid (∀ W, Calls Tryd.prog 27 #[.agg s.c] W fun e w' => e = .returned (.int .i64 0) ∧ Below W.heap.size W w')) :
    Calls Tryd.prog 24 #[.agg s.c, .int .u32 id, .int .u32 68] w fun e w' => e = .returned (.tuple #[.int .u32 ((if b = true then 1 else 0 : Nat) : Int), .int .i64 0]) ∧ Below w.heap.size w w' := by
  have K0 := Lib.hid (heap_alloc_new w (.cells s.c 57))
  have HB0 := Lib.hid ((Below.refl w.heap.size w).alloc (Nat.le_refl _) (.cells s.c 57))
  have HI := Lib.hid (show (Tryd.prog.info? 57).map (·.size) = some s.c.size by kernel_rfl)
  go_enter Tryd.func24, Tryd.ntmps24
  go_wp2_with (refine wpList_load_row rfl 57 _ rfl w.heap.size rfl 57 s.c (0, 0) _ K0.out Tryd.underlying57 rfl HI.out ?_)
  refine (HB.out _).mono ?_
  rintro e w1 ⟨rfl, hb⟩
  have K1 := Lib.hid (keepB K0.out hb)
  have HB1 := Lib.hid (HB0.out.trans (hb.mono HB0.out.size))
  clear hb K0 HB0 HB
  have c0 := (cell_of_row _ _ 0 _ _ _ K1.out).trans (rfl : _ = some (.int .u32 s.st : Value))
  have c1 := (cell_of_row _ _ 1 _ _ _ K1.out).trans (rfl : _ = some (.int .u32 s.fs : Value))
  have c3 := (cell_of_row _ _ 3 _ _ _ K1.out).trans (rfl : _ = some (.int .u32 s.se : Value))
  have c4 := (cell_of_row _ _ 4 _ _ _ K1.out).trans (rfl : _ = some (.int .u32 s.irq : Value))
  have c7 := (cell_of_row _ _ 7 _ _ _ K1.out).trans (rfl : _ = some (.bool s.a.rdy : Value))
  have c14 := (cell_of_row _ _ 14 _ _ _ K1.out).trans (rfl : _ = some (.bool s.b.rdy : Value))
  rw [h] at c3
  rw [hr] at c14
  rw [show ((1 : Nat) : Int) = 1 from rfl] at c3
  clear h hr
  cases b
  all_goals
    go_wp2_with fail
    go_ret2
    exact ⟨rfl, HB1.out⟩
set_option maxRecDepth 100000 in
set_option maxHeartbeats 4000000 in
theorem ref14_Read_else (s : VS) (id : Nat) (w : World) (a : Nat) (hne : a ≠ 0 ∧ a ≠ 4 ∧ a ≠ 8 ∧ a ≠ 12 ∧ a ≠ 16 ∧ a ≠ 52 ∧ a ≠ 68 ∧ a ≠ 96 ∧ a ≠ 112) (hlt : a < 256) (h4 : a % 4 = 0)
    (HB : Hid (∀ W, Calls Tryd.prog 27 #[.agg s.c] W fun e w' => e = .returned (.int .i64 0) ∧ Below W.heap.size W w')) :
    Calls Tryd.prog 24 #[.agg s.c, .int .u32 id, .int .u32 a] w fun e w' => e = .returned (.tuple #[.int .u32 0, .int .i64 0]) ∧ Below w.heap.size w w' := by
  have K0 := Lib.hid (heap_alloc_new w (.cells s.c 57))
  have HB0 := Lib.hid ((Below.refl w.heap.size w).alloc (Nat.le_refl _) (.cells s.c 57))
  have HI := Lib.hid (show (Tryd.prog.info? 57).map (·.size) = some s.c.size by kernel_rfl)
  go_enter Tryd.func24, Tryd.ntmps24
  go_wp2_with (refine wpList_load_row rfl 57 _ rfl w.heap.size rfl 57 s.c (0, 0) _ K0.out Tryd.underlying57 rfl HI.out ?_)
  refine (HB.out _).mono ?_
  rintro e w1 ⟨rfl, hb⟩
  have K1 := Lib.hid (keepB K0.out hb)
  have HB1 := Lib.hid (HB0.out.trans (hb.mono HB0.out.size))
  clear hb K0 HB0 HB
  have c0 := (cell_of_row _ _ 0 _ _ _ K1.out).trans (rfl : _ = some (.int .u32 s.st : Value))
  have c1 := (cell_of_row _ _ 1 _ _ _ K1.out).trans (rfl : _ = some (.int .u32 s.fs : Value))
  have c3 := (cell_of_row _ _ 3 _ _ _ K1.out).trans (rfl : _ = some (.int .u32 s.se : Value))
  have c4 := (cell_of_row _ _ 4 _ _ _ K1.out).trans (rfl : _ = some (.int .u32 s.irq : Value))
  have c7 := (cell_of_row _ _ 7 _ _ _ K1.out).trans (rfl : _ = some (.bool s.a.rdy : Value))
  have c14 := (cell_of_row _ _ 14 _ _ _ K1.out).trans (rfl : _ = some (.bool s.b.rdy : Value))
  have f1 : decide ((255 : Int) < (a : Int)) = false := by simp; omega
  have f2 : (((a : Int) % 4) != 0) = false := by have : ((a : Int) % 4) = ((a % 4 : Nat) : Int) := by omega
                                                 rw [this, h4]; rfl
  clear hlt h4
  have n0 : ((a : Int) == 0) = false := by simp; omega
  have n4 : ((a : Int) == 4) = false := by simp; omega
  have n8 : ((a : Int) == 8) = false := by simp; omega
  have n12 : ((a : Int) == 12) = false := by simp; omega
  have n16 : ((a : Int) == 16) = false := by simp; omega
  have n52 : ((a : Int) == 52) = false := by simp; omega
  have n68 : ((a : Int) == 68) = false := by simp; omega
  have n96 : ((a : Int) == 96) = false := by simp; omega
  have n112 : ((a : Int) == 112) = false := by simp; omega
  clear hne
  go_wp2_with fail
  go_ret2
  exact ⟨rfl, HB1.out⟩
set_option maxRecDepth 100000 in
set_option maxHeartbeats 4000000 in
theorem ref14_Read_bad (s : VS) (id a : Nat) (w : World) (HB : Hid (∀ W, Calls Tryd.prog 27 #[.agg s.c] W fun e w' => e = .returned (.int .i64 1) ∧ Below W.heap.size W w')) :
    Calls Tryd.prog 24 #[.agg s.c, .int .u32 id, .int .u32 a] w fun e w' => e = .returned (.tuple #[.int .u32 0, .int .i64 1]) ∧ Below w.heap.size w w' := by
  have K0 := Lib.hid (heap_alloc_new w (.cells s.c 57))
  have HB0 := Lib.hid ((Below.refl w.heap.size w).alloc (Nat.le_refl _) (.cells s.c 57))
  have HI := Lib.hid (show (Tryd.prog.info? 57).map (·.size) = some s.c.size by kernel_rfl)
  go_enter Tryd.func24, Tryd.ntmps24
  go_wp2_with (refine wpList_load_row rfl 57 _ rfl w.heap.size rfl 57 s.c (0, 0) _ K0.out Tryd.underlying57 rfl HI.out ?_)
  refine (HB.out _).mono ?_
  rintro e w1 ⟨rfl, hb⟩
  have HB1 := Lib.hid (HB0.out.trans (hb.mono HB0.out.size))
  clear hb K0 HB0 HB
  go_wp2_with fail
  go_ret2
  exact ⟨rfl, HB1.out⟩
set_option maxRecDepth 100000 in
set_option maxHeartbeats 4000000 in
theorem ref14_Read_bus (s : VS) (id a : Nat) (h : 256 ≤ a ∨ a % 4 ≠ 0) (w : World) (HB : Hid (∀ W, Calls Tryd.prog 27 #[.agg s.c] W fun e w' => e = .returned (.int .i64 0) ∧ Below W.heap.size W w')) :
    Calls Tryd.prog 24 #[.agg s.c, .int .u32 id, .int .u32 a] w fun e w' => e = .returned (.tuple #[.int .u32 0, .int .i64 20]) ∧ Below w.heap.size w w' := by
  have K0 := Lib.hid (heap_alloc_new w (.cells s.c 57))
  have HB0 := Lib.hid ((Below.refl w.heap.size w).alloc (Nat.le_refl _) (.cells s.c 57))
  have HI := Lib.hid (show (Tryd.prog.info? 57).map (·.size) = some s.c.size by kernel_rfl)
  by_cases h1 : 256 ≤ a
  · have e1 : decide ((255 : Int) < (a : Int)) = true := by simp; omega
    clear h h1
    go_enter Tryd.func24, Tryd.ntmps24
    go_wp2_with (refine wpList_load_row rfl 57 _ rfl w.heap.size rfl 57 s.c (0, 0) _ K0.out Tryd.underlying57 rfl HI.out ?_)
    refine (HB.out _).mono ?_
    rintro e w1 ⟨rfl, hb⟩
    have HB1 := Lib.hid (HB0.out.trans (hb.mono HB0.out.size))
    clear hb K0 HB0 HB
    go_wp2_with fail
    go_ret2
    exact ⟨rfl, HB1.out⟩
  · have e1 : decide ((255 : Int) < (a : Int)) = false := by simp; omega
    have e2 : (((a : Int) % 4) != 0) = true := by simp only [bne_iff_ne, ne_eq]; omega
    clear h h1
    go_enter Tryd.func24, Tryd.ntmps24
    go_wp2_with (refine wpList_load_row rfl 57 _ rfl w.heap.size rfl 57 s.c (0, 0) _ K0.out Tryd.underlying57 rfl HI.out ?_)
    refine (HB.out _).mono ?_
    rintro e w1 ⟨rfl, hb⟩
    have HB1 := Lib.hid (HB0.out.trans (hb.mono HB0.out.size))
    clear hb K0 HB0 HB
    go_wp2_with fail
    go_ret2
    exact ⟨rfl, HB1.out⟩
theorem ref14_Read (s : VS) (hs : s.st < 4294967296) (id a : Nat) (w : World) :
    Calls Tryd.prog 24 #[.agg s.c, .int .u32 id, .int .u32 a] w fun e w' => e = .returned (.tuple #[.int .u32 (vread s id a : Nat), .int .i64 (badN s a : Nat)]) ∧ Below w.heap.size w w' := by
  have HB := fun W => ref14_Check s hs W
  unfold Check14Post at HB
  by_cases hok : s.ok
  · rw [if_pos hok] at HB
    have HB' : Hid (∀ W, Calls Tryd.prog 27 #[.agg s.c] W fun e w' => e = .returned (.int .i64 0) ∧ Below W.heap.size W w') := Lib.hid HB
    by_cases hbus : 256 ≤ a ∨ a % 4 ≠ 0
    · rw [show badN s a = 20 by unfold badN; rw [if_pos hok, if_pos hbus], show vread s id a = 0 by unfold vread badN; rw [if_pos hok, if_pos hbus]; rfl]
      exact ref14_Read_bus s id a hbus w HB'
    have hlt : a < 256 := by omega
    have hmod : a % 4 = 0 := by omega
    have hb : badN s a = 0 := by unfold badN; rw [if_pos hok, if_neg hbus]
    rw [show vread s id a = vreadV s id a from if_pos hb, hb]
    unfold vreadV
    show Calls _ _ _ _ fun e w' => e = .returned (.tuple #[_, .int .i64 0]) ∧ _
    by_cases h0 : a = 0
    · subst h0
      rw [if_pos rfl]
      exact ref14_Read_a0 s id w HB'
    rw [if_neg h0]
    by_cases h4 : a = 4
    · subst h4
      rw [if_pos rfl]
      exact ref14_Read_a4 s id w HB'
    rw [if_neg h4]
    by_cases h8 : a = 8
    · subst h8
      rw [if_pos rfl]
      exact ref14_Read_a8 s id w HB'
    rw [if_neg h8]
    by_cases h12 : a = 12
    · subst h12
      rw [if_pos rfl]
      exact ref14_Read_a12 s id w HB'
    rw [if_neg h12]
    by_cases h16 : a = 16
    · subst h16
      rw [if_pos rfl]
      by_cases h : s.fs = 1
      · rw [if_pos h]; exact ref14_Read_a16y s id w h HB'
      · rw [if_neg h]; exact ref14_Read_a16n s id w h HB'
    rw [if_neg h16]
    by_cases h52 : a = 52
    · subst h52
      rw [if_pos rfl]
      by_cases h : s.se < 2
      · rw [if_pos h]; exact ref14_Read_a52y s id w h HB'
      · rw [if_neg h]; exact ref14_Read_a52n s id w h HB'
    rw [if_neg h52]
    by_cases h68 : a = 68
    · subst h68
      rw [if_pos rfl]
      by_cases h : s.se < 2
      · by_cases h0 : s.se = 0
        · have e : (if (s.se = 0 ∧ s.a.rdy = true) ∨ (s.se = 1 ∧ s.b.rdy = true) then 1 else 0 : Nat) = (if s.a.rdy = true then 1 else 0) := by simp [h0]
          rw [e]; exact ref14_Read_a68a s id w h0 _ rfl HB'
        · have h1 : s.se = 1 := by omega
          have e : (if (s.se = 0 ∧ s.a.rdy = true) ∨ (s.se = 1 ∧ s.b.rdy = true) then 1 else 0 : Nat) = (if s.b.rdy = true then 1 else 0) := by simp [h1]
          rw [e]; exact ref14_Read_a68b s id w h1 _ rfl HB'
      · have e : (if (s.se = 0 ∧ s.a.rdy = true) ∨ (s.se = 1 ∧ s.b.rdy = true) then 1 else 0 : Nat) = 0 := if_neg (by omega)
        rw [e]; exact ref14_Read_a68n s id w h HB'
    rw [if_neg h68]
    by_cases h96 : a = 96
    · subst h96
      rw [if_pos rfl]
      exact ref14_Read_a96 s id w HB'
    rw [if_neg h96]
    by_cases h112 : a = 112
    · subst h112
      rw [if_pos rfl]
      exact ref14_Read_a112 s id w HB'
    rw [if_neg h112]
    exact ref14_Read_else s id w a ⟨h0, h4, h8, h12, h16, h52, h68, h96, h112⟩ hlt hmod HB'
  · rw [if_neg hok] at HB
    rw [show badN s a = 1 by unfold badN; rw [if_neg hok], show vread s id a = 0 by unfold vread badN; rw [if_neg hok]; rfl]
    exact ref14_Read_bad s id a w (Lib.hid HB)
end Go.Proofs.YtcbjlpkkebcmjaaDoor
