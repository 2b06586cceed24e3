/-
pinnaceref14's Fail and Used, walked.
No condition.
-/
import Derived.Test.YtcmbnkmbaghkdaaDoorRef14
import Derived.Test.YtcmbnkmbaghkdaaDoorG2
namespace Go.Proofs.YtcmbnkmbaghkdaaDoor
open Go.RowKit
set_option linter.unusedVariables false

set_option maxRecDepth 100000 in
set_option maxHeartbeats 4000000 in
theorem ref14_Used_row (c d : Array Value) (irq y : Nat) (w : World) (hcz : c.size = 21) (hc4 : c[4]? = some (.int .u32 irq)) (hd : c.setIfInBounds 4 (.int .u32 y) = d) (hone : d.all (·.oneCell') = true)
    (H : Hid (∀ W, Calls Tryd.prog 88 #[.int .u32 irq, .int .i64 0, .int .i64 1, .int .u32 1] W fun e w' => e = .returned (.int .u32 (y : Int)) ∧ Below W.heap.size W w')) :
    Calls Tryd.prog 90 #[.agg c] w fun e w' => e = .returned (.agg d) ∧ Below w.heap.size w w' := by
  obtain ⟨k0, k1, hb0⟩ := two_new w (.cells c 57) (.cells VS.zero.c 57)
  have K0 := Lib.hid k0
  have K1 := Lib.hid k1
  have HB0 := Lib.hid hb0
  have hdz : d.size = 21 := by rw [← hd]; simp [hcz]
  have HI := Lib.hid (show (Tryd.prog.info? 57).map (·.size) = some d.size by rw [hdz]; kernel_rfl)
  have HO := Lib.hid hone
  have HD := Lib.hid hd
  have HSZ : Hid (VS.zero.c.size = d.size) := Lib.hid (by rw [hdz]; rfl)
  have HC4 := Lib.hid hc4
  have c4 := (cell_of_row _ _ 4 _ _ _ K0.out).trans hc4
  clear k0 k1 hb0 hd hone hcz hdz hc4
  go_enter Tryd.func90, Tryd.ntmps90
  go_upto_region 1 with fail
  change Code.wp _ _ _ _ ((w.alloc (.cells c 57)).alloc (.cells VS.zero.c 57))
  generalize ((w.alloc (.cells c 57)).alloc (.cells VS.zero.c 57)) = w0 at K0 K1 HB0 c4 ⊢
  go_wp2_with fail
  refine (H.out _).mono ?_
  rintro e w1 ⟨rfl, hb⟩
  have K2 := Lib.hid (keepB K0.out hb)
  have K3 := Lib.hid (keepB K1.out hb)
  have HB1 := Lib.hid (HB0.out.trans (hb.mono HB0.out.size))
  clear hb K0 K1 HB0 c4 H
  have c4 := (cell_of_row _ _ 4 _ _ _ K2.out).trans HC4.out
  have f4 := frozen_of_row _ _ 4 _ _ K2.out
  have K4 : Hid ((w1.setCell ⟨w.heap.size, 4, none⟩ (.int .u32 y)).heap[w.heap.size]? = some (.cells d 57 (0, 0))) := Lib.hid ((set_cells K2.out).trans (by rw [HD.out]))
  have K5 : Hid ((w1.setCell ⟨w.heap.size, 4, none⟩ (.int .u32 y)).heap[w.heap.size + 1]? = some (.cells VS.zero.c 57 (0, 0))) := Lib.hid ((heap_cell_other (by show w.heap.size + 1 ≠ w.heap.size; omega)).trans K3.out)
  have HB2 := Lib.hid (HB1.out.setCell (p := ⟨w.heap.size, 4, none⟩) (Nat.le_refl _) (.int .u32 y))
  go_wp2_with (first | go_skip | (refine wpList_load_row rfl 57 _ rfl w.heap.size rfl 57 d (0, 0) _ K4.out Tryd.underlying57 rfl HI.out ?_) | (refine wpList_store_row rfl 57 _ _ rfl (w.heap.size + 1) d rfl rfl 57 VS.zero.c K5.out HI.out HSZ.out HO.out ?_))
  exact bodyPost_ret (v := .agg d) (results_cell_row rfl _ _ (w.heap.size + 1) 57 d (0, 0) _ rfl (setRow_heap _ _ _ _ _ _ K5.out) Tryd.underlying57 rfl HI.out) rfl ⟨rfl, below_setRow HB2.out (by simp) _⟩
theorem ref14_Used (s : VS) (hq : s.irq < 4294967296) (w : World) : Calls Tryd.prog 90 #[.agg s.c] w fun e w' => e = .returned (.agg s.used.c) ∧ Below w.heap.size w w' :=
  ref14_Used_row s.c s.used.c s.irq (s.irq ||| 1) w rfl rfl (used_row s (s.irq ||| 1)) s.used.c_one (Lib.hid fun W => ref1_Set s.irq 0 1 W hq (by omega) (by omega))
set_option maxRecDepth 100000 in
set_option maxHeartbeats 4000000 in
theorem ref14_Fail_row (c d : Array Value) (st x irq y : Nat) (w : World) (hcz : c.size = 21) (hc0 : c[0]? = some (.int .u32 st)) (hc4 : c[4]? = some (.int .u32 irq)) (hd : (c.setIfInBounds 0 (.int .u32 x)).setIfInBounds 4 (.int .u32 y) = d) (hone : d.all (·.oneCell') = true)
    (H : Hid (∀ W, Calls Tryd.prog 88 #[.int .u32 st, .int .i64 6, .int .i64 1, .int .u32 1] W fun e w' => e = .returned (.int .u32 (x : Int)) ∧ Below W.heap.size W w'))
    (H2 : Hid (∀ W, Calls Tryd.prog 88 #[.int .u32 irq, .int .i64 1, .int .i64 1, .int .u32 1] W fun e w' => e = .returned (.int .u32 (y : Int)) ∧ Below W.heap.size W w')) :
    Calls Tryd.prog 51 #[.agg c] w fun e w' => e = .returned (.agg d) ∧ Below w.heap.size w w' := by
  obtain ⟨k0, k1, hb0⟩ := two_new w (.cells c 57) (.cells VS.zero.c 57)
  have K0 := Lib.hid k0
  have K1 := Lib.hid k1
  have HB0 := Lib.hid hb0
  have hdz : d.size = 21 := by rw [← hd]; simp [hcz]
  have HI := Lib.hid (show (Tryd.prog.info? 57).map (·.size) = some d.size by rw [hdz]; kernel_rfl)
  have HO := Lib.hid hone
  have HD := Lib.hid hd
  have HSZ : Hid (VS.zero.c.size = d.size) := Lib.hid (by rw [hdz]; rfl)
  have HC0 := Lib.hid hc0
  have HC4 : Hid ((c.setIfInBounds 0 (.int .u32 x))[4]? = some (.int .u32 irq)) := Lib.hid (by rw [Array.getElem?_setIfInBounds, if_neg (by decide)]; exact hc4)
  have c0 := (cell_of_row _ _ 0 _ _ _ K0.out).trans hc0
  clear k0 k1 hb0 hd hone hcz hdz hc4 hc0
  go_enter Tryd.func51, Tryd.ntmps51
  go_upto_region 1 with fail
  change Code.wp _ _ _ _ ((w.alloc (.cells c 57)).alloc (.cells VS.zero.c 57))
  generalize ((w.alloc (.cells c 57)).alloc (.cells VS.zero.c 57)) = w0 at K0 K1 HB0 c0 ⊢
  go_wp2_with fail
  refine (H.out _).mono ?_
  rintro e w1 ⟨rfl, hb⟩
  have K2 := Lib.hid (keepB K0.out hb)
  have K3 := Lib.hid (keepB K1.out hb)
  have HB1 := Lib.hid (HB0.out.trans (hb.mono HB0.out.size))
  clear hb K0 K1 HB0 c0 H
  have c0 := (cell_of_row _ _ 0 _ _ _ K2.out).trans HC0.out
  have f0 := frozen_of_row _ _ 0 _ _ K2.out
  have K4 : Hid ((w1.setCell ⟨w.heap.size, 0, none⟩ (.int .u32 x)).heap[w.heap.size]? = some (.cells (c.setIfInBounds 0 (.int .u32 x)) 57 (0, 0))) := Lib.hid (set_cells K2.out)
  have K5 : Hid ((w1.setCell ⟨w.heap.size, 0, none⟩ (.int .u32 x)).heap[w.heap.size + 1]? = some (.cells VS.zero.c 57 (0, 0))) := Lib.hid ((heap_cell_other (by show w.heap.size + 1 ≠ w.heap.size; omega)).trans K3.out)
  have HB2 := Lib.hid (HB1.out.setCell (p := ⟨w.heap.size, 0, none⟩) (Nat.le_refl _) (.int .u32 x))
  have c4 := (cell_of_row _ _ 4 _ _ _ K4.out).trans HC4.out
  go_upto_region 2 with fail
  generalize w1.setCell ⟨w.heap.size, 0, none⟩ (.int .u32 x) = w2 at K4 K5 HB2 c4 ⊢
  clear c0 f0 K2 K3 HB1
  go_wp2_with fail
  refine (H2.out _).mono ?_
  rintro e w3 ⟨rfl, hb⟩
  have K6 := Lib.hid (keepB K4.out hb)
  have K7 := Lib.hid (keepB K5.out hb)
  have HB3 := Lib.hid (HB2.out.trans (hb.mono HB2.out.size))
  clear hb K4 K5 HB2 c4 H2
  have c4 := (cell_of_row _ _ 4 _ _ _ K6.out).trans HC4.out
  have f4 := frozen_of_row _ _ 4 _ _ K6.out
  have K8 : Hid ((w3.setCell ⟨w.heap.size, 4, none⟩ (.int .u32 y)).heap[w.heap.size]? = some (.cells d 57 (0, 0))) := Lib.hid ((set_cells K6.out).trans (by rw [HD.out]))
  have K9 : Hid ((w3.setCell ⟨w.heap.size, 4, none⟩ (.int .u32 y)).heap[w.heap.size + 1]? = some (.cells VS.zero.c 57 (0, 0))) := Lib.hid ((heap_cell_other (by show w.heap.size + 1 ≠ w.heap.size; omega)).trans K7.out)
  have HB4 := Lib.hid (HB3.out.setCell (p := ⟨w.heap.size, 4, none⟩) (Nat.le_refl _) (.int .u32 y))
  go_wp2_with (first | go_skip | (refine wpList_load_row rfl 57 _ rfl w.heap.size rfl 57 d (0, 0) _ K8.out Tryd.underlying57 rfl HI.out ?_) | (refine wpList_store_row rfl 57 _ _ rfl (w.heap.size + 1) d rfl rfl 57 VS.zero.c K9.out HI.out HSZ.out HO.out ?_))
  exact bodyPost_ret (v := .agg d) (results_cell_row rfl _ _ (w.heap.size + 1) 57 d (0, 0) _ rfl (setRow_heap _ _ _ _ _ _ K9.out) Tryd.underlying57 rfl HI.out) rfl ⟨rfl, below_setRow HB4.out (by simp) _⟩
theorem ref14_Fail (s : VS) (hs : s.st < 4294967296) (hq : s.irq < 4294967296) (w : World) : Calls Tryd.prog 51 #[.agg s.c] w fun e w' => e = .returned (.agg s.fail.c) ∧ Below w.heap.size w w' :=
  ref14_Fail_row s.c s.fail.c s.st (s.st ||| 64) s.irq (s.irq ||| 2) w rfl rfl rfl (put_row s (s.st ||| 64) (s.irq ||| 2)) s.fail.c_one (Lib.hid fun W => ref1_Set s.st 6 1 W hs (by omega) (by omega)) (Lib.hid fun W => ref1_Set s.irq 1 1 W hq (by omega) (by omega))
end Go.Proofs.YtcmbnkmbaghkdaaDoor
