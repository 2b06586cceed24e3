/-
Package mem at a nil memory, and mem.New where it refuses.
No condition.
-/
import Derived.Test.YtcakcfeipfjmpaaDoorMemLoad
import Derived.Test.YtcakcfeipfjmpaaDoorMemDirty
import Derived.Test.YtcakcfeipfjmpaaDoorCounter
namespace Go.Proofs.YtcakcfeipfjmpaaDoor
open Go.RowKit
set_option linter.unusedVariables false

theorem mem_Writes_nil (w : World) : Calls Tryd.prog 32 #[.pointer none] w fun e w' => e = .returned (.int .i64 0) ∧ w = w' := by
  go_enter Tryd.func32, Tryd.ntmps32
  go_wp2_with fail
  go_ret
  exact ⟨rfl, rfl⟩
theorem mem_Writes_ok {g : Nat} {m : Mm} {F : Nat → Prop} {w : World} (h : RamIs w g m F) (h64 : -9223372036854775808 ≤ m.wr ∧ m.wr ≤ 9223372036854775807) : Calls Tryd.prog 32 #[.pointer (some ⟨g, 0, none⟩)] w fun e w' => e = .returned (.int .i64 m.wr) ∧ w = w' := by
  obtain ⟨gp, gd, pg, bl, ha, hfoot, hlt⟩ := h
  have HL := Lib.hid (counter_load ⟨g, 2, none⟩ m.wr w ha.c2)
  clear ha hfoot hlt
  go_enter Tryd.func32, Tryd.ntmps32
  go_wp2_with fail
  refine (HL.out).mono ?_
  rintro e w' ⟨rfl, rfl⟩
  go_wp2_with fail
  go_ret
  exact ⟨rfl, rfl⟩

set_option maxRecDepth 100000 in
theorem mem_check_nil (a : Nat) (k : Int) (w : World) : Calls Tryd.prog 68 #[.pointer none, .int .u32 a, .int .i64 k] w fun e w' => e = .returned (.iface 109 (.int .i64 1)) ∧ w = w' := by
  have H0 := Lib.hid (mem_Pages_nil w)
  go_enter Tryd.func68, Tryd.ntmps68
  go_wp2_with fail
  refine (H0.out).mono ?_
  rintro e w' ⟨rfl, rfl⟩
  go_wp2_with fail
  go_ret
  exact ⟨rfl, rfl⟩

set_option maxRecDepth 100000 in
theorem mem_run_nil (a : Nat) (k : Int) (w : World) : Calls Tryd.prog 59 #[.pointer none, .int .u32 a, .int .i64 k] w fun e w' => e = .returned (.iface 109 (.int .i64 1)) ∧ w = w' := by
  go_enter Tryd.func59, Tryd.ntmps59
  go_wp2_with fail
  go_ret
  exact ⟨rfl, rfl⟩

set_option maxRecDepth 100000 in
theorem mem_is_nil (k : Int) (w : World) : Calls Tryd.prog 75 #[.pointer none, .int .i64 k] w fun e w' => e = .returned (.iface 109 (.int .i64 1)) ∧ w = w' := by
  go_enter Tryd.func75, Tryd.ntmps75
  go_wp2_with fail
  go_ret
  exact ⟨rfl, rfl⟩

set_option maxRecDepth 100000 in
theorem mem_Load_nil (w : World) : Calls Tryd.prog 24 #[.pointer none, .int .u32 0, .int .i64 1] w fun e w' => e = .returned (.tuple #[.int .u32 0, .iface 109 (.int .i64 1)]) ∧ w = w' := by
  have H0 := Lib.hid (mem_check_nil 0 1 w)
  go_enter Tryd.func24, Tryd.ntmps24
  go_wp2_with fail
  refine (H0.out).mono ?_
  rintro e w' ⟨rfl, rfl⟩
  go_wp2_with fail
  go_ret2
  exact ⟨rfl, rfl⟩

set_option maxRecDepth 100000 in
theorem mem_Read_nil (w : World) : Calls Tryd.prog 13 #[.pointer none, .int .u32 0, .int .i64 0] w fun e w' => e = .returned (.tuple #[.slice none 0 0, .iface 109 (.int .i64 1)]) ∧ w = w' := by
  have H0 := Lib.hid (mem_run_nil 0 0 w)
  go_enter Tryd.func13, Tryd.ntmps13
  go_wp2_with fail
  refine (H0.out).mono ?_
  rintro e w' ⟨rfl, rfl⟩
  go_wp2_with fail
  go_ret2
  exact ⟨rfl, rfl⟩

set_option maxRecDepth 100000 in
theorem mem_Page_nil (w : World) : Calls Tryd.prog 26 #[.pointer none, .int .i64 0] w fun e w' => e = .returned (.tuple #[.slice none 0 0, .iface 109 (.int .i64 1)]) ∧ w = w' := by
  have H0 := Lib.hid (mem_is_nil 0 w)
  go_enter Tryd.func26, Tryd.ntmps26
  go_wp2_with fail
  refine (H0.out).mono ?_
  rintro e w' ⟨rfl, rfl⟩
  go_wp2_with fail
  go_ret2
  exact ⟨rfl, rfl⟩

set_option maxRecDepth 100000 in
theorem mem_Digest_nil (w : World) : Calls Tryd.prog 27 #[.pointer none, .int .i64 0] w fun e w' => e = .returned (.tuple #[.int .u32 0, .iface 109 (.int .i64 1)]) ∧ w = w' := by
  have H0 := Lib.hid (mem_is_nil 0 w)
  go_enter Tryd.func27, Tryd.ntmps27
  go_wp2_with fail
  refine (H0.out).mono ?_
  rintro e w' ⟨rfl, rfl⟩
  go_wp2_with fail
  go_ret2
  exact ⟨rfl, rfl⟩

set_option maxRecDepth 100000 in
theorem mem_Store_nil (w : World) : Calls Tryd.prog 21 #[.pointer none, .int .u32 0, .int .i64 1, .int .u32 0] w fun e w' => e = .returned (.iface 109 (.int .i64 1)) ∧ w = w' := by
  have H0 := Lib.hid (mem_check_nil 0 1 w)
  go_enter Tryd.func21, Tryd.ntmps21
  go_wp2_with fail
  refine (H0.out).mono ?_
  rintro e w' ⟨rfl, rfl⟩
  go_wp2_with fail
  go_ret
  exact ⟨rfl, rfl⟩

set_option maxRecDepth 100000 in
theorem mem_Write_nil (w : World) : Calls Tryd.prog 29 #[.pointer none, .int .u32 0, .slice none 0 0] w fun e w' => e = .returned (.iface 109 (.int .i64 1)) ∧ w = w' := by
  have H0 := Lib.hid (mem_run_nil 0 0 w)
  go_enter Tryd.func29, Tryd.ntmps29
  go_wp2_with fail
  refine (H0.out).mono ?_
  rintro e w' ⟨rfl, rfl⟩
  go_wp2_with fail
  go_ret
  exact ⟨rfl, rfl⟩

set_option maxRecDepth 100000 in
theorem mem_SetPage_nil (w : World) : Calls Tryd.prog 30 #[.pointer none, .int .i64 0, .slice none 0 0] w fun e w' => e = .returned (.iface 109 (.int .i64 1)) ∧ w = w' := by
  have H0 := Lib.hid (mem_is_nil 0 w)
  go_enter Tryd.func30, Tryd.ntmps30
  go_wp2_with fail
  refine (H0.out).mono ?_
  rintro e w' ⟨rfl, rfl⟩
  go_wp2_with fail
  go_ret
  exact ⟨rfl, rfl⟩

set_option maxRecDepth 100000 in
theorem mem_Clone_nil0 (w : World) : Calls Tryd.prog 16 #[.pointer none] w fun e w' => e = .returned (.pointer none) ∧ w = w' := by
  go_enter Tryd.func16, Tryd.ntmps16
  go_wp2_with fail
  go_ret
  exact ⟨rfl, rfl⟩

set_option maxRecDepth 100000 in
theorem mem_Harvest_nil (w : World) : Calls Tryd.prog 34 #[.pointer none] w fun e w' => e = .returned (.slice none 0 0) ∧ w = w' := by
  have H0 := Lib.hid (mem_Dirty_nil w)
  go_enter Tryd.func34, Tryd.ntmps34
  go_wp2_with fail
  refine (H0.out).mono ?_
  rintro e w' ⟨rfl, rfl⟩
  go_wp2_with fail
  go_ret
  exact ⟨rfl, rfl⟩

set_option maxRecDepth 100000 in
set_option maxHeartbeats 1000000 in
theorem mem_Same_nil (w : World) : Calls Tryd.prog 17 #[.pointer none, .pointer none] w fun e w' => e = .returned (.bool false) ∧ Below w.heap.size w w' := by
  go_enter Tryd.func17, Tryd.ntmps17
  go_upto_region 1 with fail
  go_quiet (fail)
  go_wp2_with fail
  go_ret
  exact ⟨rfl, below_drewN (Below.refl _ _) _⟩

set_option maxRecDepth 100000 in
theorem mem_New_few (n : Int) (w : World) (h : n < 1) : Calls Tryd.prog 35 #[.int .i64 n] w fun e w' => e = .returned (.tuple #[.pointer none, .iface 109 (.int .i64 1)]) ∧ w = w' := by
  have b1 : decide (n < 1) = true := decide_eq_true h
  clear h
  go_enter Tryd.func35, Tryd.ntmps35
  go_wp2_with fail
  go_ret2
  exact ⟨rfl, rfl⟩
set_option maxRecDepth 100000 in
theorem mem_New_many (n : Int) (w : World) (h : 16384 < n) : Calls Tryd.prog 35 #[.int .i64 n] w fun e w' => e = .returned (.tuple #[.pointer none, .iface 109 (.int .i64 1)]) ∧ w = w' := by
  have b1 : decide (n < 1) = false := decide_eq_false (by omega)
  have b2 : decide (16384 < n) = true := decide_eq_true h
  clear h
  go_enter Tryd.func35, Tryd.ntmps35
  go_wp2_with fail
  go_ret2
  exact ⟨rfl, rfl⟩
end Go.Proofs.YtcakcfeipfjmpaaDoor
