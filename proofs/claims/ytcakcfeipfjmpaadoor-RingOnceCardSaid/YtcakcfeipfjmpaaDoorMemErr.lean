/-
Store, Read and Write of package mem, walked where they answer an error.
No condition.
-/
import Derived.Test.YtcakcfeipfjmpaaDoorMemWrite
namespace Go.Proofs.YtcakcfeipfjmpaaDoor
open Go.RowKit

def isErr (q : Nat) : Prop := q = 1 ∨ q = 2 ∨ q = 4 ∨ q = 5 ∨ q = 21
theorem errV_val {q : Nat} (h : 0 < q) : errV q = .iface 109 (.int .i64 (q : Int)) := by unfold errV; rw [if_neg (by omega)]
set_option maxRecDepth 100000 in
theorem mem_Store_err {g : Nat} (a : Nat) (k : Int) (v q : Nat) {w : World} (hq : 0 < q) (HC : Hid (Calls Tryd.prog 68 #[.pointer (some ⟨g, 0, none⟩), .int .u32 a, .int .i64 k] w fun e w' => e = .returned (errV q) ∧ w = w')) :
    Calls Tryd.prog 21 #[.pointer (some ⟨g, 0, none⟩), .int .u32 a, .int .i64 k, .int .u32 v] w fun e w' => e = .returned (errV q) ∧ w = w' := by
  rw [errV_val hq] at HC ⊢
  clear hq
  generalize (q : Int) = z at HC ⊢
  go_enter Tryd.func21, Tryd.ntmps21
  go_wp2_with fail
  refine (HC.out).mono ?_
  rintro e w' ⟨rfl, rfl⟩
  go_wp2_with fail
  go_ret
  exact ⟨rfl, rfl⟩
set_option maxRecDepth 100000 in
theorem mem_Read_err {g : Nat} (a : Nat) (k : Int) (q : Nat) {w : World} (hq : 0 < q) (HC : Hid (Calls Tryd.prog 59 #[.pointer (some ⟨g, 0, none⟩), .int .u32 a, .int .i64 k] w fun e w' => e = .returned (errV q) ∧ w = w')) :
    Calls Tryd.prog 13 #[.pointer (some ⟨g, 0, none⟩), .int .u32 a, .int .i64 k] w fun e w' => e = .returned (.tuple #[.slice none 0 0, errV q]) ∧ w = w' := by
  rw [errV_val hq] at HC ⊢
  clear hq
  generalize (q : Int) = z at HC ⊢
  go_enter Tryd.func13, Tryd.ntmps13
  go_wp2_with fail
  refine (HC.out).mono ?_
  rintro e w' ⟨rfl, rfl⟩
  go_wp2_with fail
  go_ret2
  exact ⟨rfl, rfl⟩
set_option maxRecDepth 100000 in
theorem mem_Write_err {g : Nat} (a n cap : Nat) (ao : Option Addr) (q : Nat) {w : World} (hq : 0 < q) (HC : Hid (Calls Tryd.prog 59 #[.pointer (some ⟨g, 0, none⟩), .int .u32 a, .int .i64 n] w fun e w' => e = .returned (errV q) ∧ w = w')) :
    Calls Tryd.prog 29 #[.pointer (some ⟨g, 0, none⟩), .int .u32 a, .slice ao n cap] w fun e w' => e = .returned (errV q) ∧ w = w' := by
  rw [errV_val hq] at HC ⊢
  clear hq
  generalize (q : Int) = z at HC ⊢
  go_enter Tryd.func29, Tryd.ntmps29
  go_wp2_with fail
  refine (HC.out).mono ?_
  rintro e w' ⟨rfl, rfl⟩
  go_wp2_with fail
  go_ret
  exact ⟨rfl, rfl⟩
theorem mem_Read_range {g : Nat} {m : Mm} {F : Nat → Prop} {w : World} (h : RamIs w g m F) (a k : Nat) (ha : a < 4294967296) (hk : k < 9223372036854775808) (hs : 4096 * m.n < a + k) :
    Calls Tryd.prog 13 #[.pointer (some ⟨g, 0, none⟩), .int .u32 a, .int .i64 k] w fun e w' => e = .returned (.tuple #[.slice none 0 0, errV 4]) ∧ w = w' := mem_Read_err a k 4 (by omega) (Lib.hid (mem_run_range h a k ha hk hs))
theorem mem_Write_range {g : Nat} {m : Mm} {F : Nat → Prop} {w : World} (h : RamIs w g m F) (a n cap : Nat) (ao : Option Addr) (ha : a < 4294967296) (hk : n < 9223372036854775808) (hs : 4096 * m.n < a + n) :
    Calls Tryd.prog 29 #[.pointer (some ⟨g, 0, none⟩), .int .u32 a, .slice ao n cap] w fun e w' => e = .returned (errV 4) ∧ w = w' := mem_Write_err a n cap ao 4 (by omega) (Lib.hid (mem_run_range h a n ha hk hs))
end Go.Proofs.YtcakcfeipfjmpaaDoor
