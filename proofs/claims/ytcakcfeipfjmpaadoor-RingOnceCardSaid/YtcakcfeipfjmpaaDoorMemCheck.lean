/-
Pages, check, run and is of package mem, walked.
No condition.
-/
import Derived.Test.YtcakcfeipfjmpaaDoorRam
import Derived.Test.YtcakcfeipfjmpaaDoorErrV
namespace Go.Proofs.YtcakcfeipfjmpaaDoor
open Go.RowKit

theorem RamAt.c0 {W : World} {g gp gd : Nat} {pg : Nat → Option Nat} {bl : Option Nat} {m : Mm} (h : RamAt W g gp gd pg bl m) : W.cell? ⟨g, 0, none⟩ = some (.slice (some ⟨gp, 0, none⟩) m.n m.n) := (cell_of_row _ _ 0 _ _ _ h.r).trans rfl
theorem RamAt.c1 {W : World} {g gp gd : Nat} {pg : Nat → Option Nat} {bl : Option Nat} {m : Mm} (h : RamAt W g gp gd pg bl m) : W.cell? ⟨g, 1, none⟩ = some (.slice (some ⟨gd, 0, none⟩) m.n m.dc) := (cell_of_row _ _ 1 _ _ _ h.r).trans rfl
theorem RamAt.c2 {W : World} {g gp gd : Nat} {pg : Nat → Option Nat} {bl : Option Nat} {m : Mm} (h : RamAt W g gp gd pg bl m) : W.cell? ⟨g, 2, none⟩ = some (.int .i64 m.wr) := (cell_of_row _ _ 2 _ _ _ h.r).trans rfl
theorem RamAt.c3 {W : World} {g gp gd : Nat} {pg : Nat → Option Nat} {bl : Option Nat} {m : Mm} (h : RamAt W g gp gd pg bl m) : W.cell? ⟨g, 3, none⟩ = some (.int .u32 (if bl.isSome then 1 else 0)) := (cell_of_row _ _ 3 _ _ _ h.r).trans rfl
theorem RamAt.c4 {W : World} {g gp gd : Nat} {pg : Nat → Option Nat} {bl : Option Nat} {m : Mm} (h : RamAt W g gp gd pg bl m) : W.cell? ⟨g, 4, none⟩ = some (.int .i32 0) := (cell_of_row _ _ 4 _ _ _ h.r).trans rfl
theorem RamAt.c5 {W : World} {g gp gd : Nat} {pg : Nat → Option Nat} {bl : Option Nat} {m : Mm} (h : RamAt W g gp gd pg bl m) : W.cell? ⟨g, 5, none⟩ = some (.int .u32 0) := (cell_of_row _ _ 5 _ _ _ h.r).trans rfl
theorem RamAt.c6 {W : World} {g gp gd : Nat} {pg : Nat → Option Nat} {bl : Option Nat} {m : Mm} (h : RamAt W g gp gd pg bl m) : W.cell? ⟨g, 6, none⟩ = some (pgV bl) := (cell_of_row _ _ 6 _ _ _ h.r).trans rfl
theorem RamAt.fz {W : World} {g gp gd : Nat} {pg : Nat → Option Nat} {bl : Option Nat} {m : Mm} (h : RamAt W g gp gd pg bl m) (j : Nat) : W.frozen? ⟨g, j, none⟩ = false := frozen_of_row _ _ j _ _ h.r

theorem mem_Pages_nil (w : World) : Calls Tryd.prog 31 #[.pointer none] w fun e w' => e = .returned (.int .i64 0) ∧ w = w' := by
  go_enter Tryd.func31, Tryd.ntmps31
  go_wp2_with fail
  go_ret
  exact ⟨rfl, rfl⟩
theorem mem_Pages {g : Nat} {m : Mm} {F : Nat → Prop} {w : World} (h : RamIs w g m F) : Calls Tryd.prog 31 #[.pointer (some ⟨g, 0, none⟩)] w fun e w' => e = .returned (.int .i64 m.n) ∧ w = w' := by
  obtain ⟨gp, gd, pg, bl, h, _⟩ := h
  have c0 := h.c0
  clear h
  go_enter Tryd.func31, Tryd.ntmps31
  go_wp2_with fail
  go_ret
  exact ⟨rfl, rfl⟩

/-- What a place of so many bytes is answered. -/
def memErr (n a : Nat) (k : Int) : Nat := if k ≠ 1 ∧ k ≠ 2 ∧ k ≠ 4 then 21 else if 4096 * n < a + k.toNat then 4 else if a % k.toNat ≠ 0 then 5 else 0

theorem mem_check_wide {g : Nat} {m : Mm} {F : Nat → Prop} {w : World} (h : RamIs w g m F) (a : Nat) (k : Int) (h1 : k ≠ 1) (h2 : k ≠ 2) (h4 : k ≠ 4) :
    Calls Tryd.prog 68 #[.pointer (some ⟨g, 0, none⟩), .int .u32 a, .int .i64 k] w fun e w' => e = .returned (errV 21) ∧ w = w' := by
  have HP := Lib.hid (mem_Pages h)
  have b1 : (k != 1) = true := by simpa using h1
  have b2 : (k != 2) = true := by simpa using h2
  have b4 : (k != 4) = true := by simpa using h4
  clear h h1 h2 h4
  go_enter Tryd.func68, Tryd.ntmps68
  go_wp2_with fail
  refine (HP.out).mono ?_
  rintro e w' ⟨rfl, rfl⟩
  go_wp2_with fail
  go_ret
  exact ⟨rfl, rfl⟩
def okN (k : Nat) : Prop := k = 1 ∨ k = 2 ∨ k = 4
theorem mem_check_range {g : Nat} {m : Mm} {F : Nat → Prop} {w : World} (h : RamIs w g m F) (a k : Nat) (ha : a < 4294967296) (hk : okN k) (hs : 4096 * m.n < a + k) :
    Calls Tryd.prog 68 #[.pointer (some ⟨g, 0, none⟩), .int .u32 a, .int .i64 k] w fun e w' => e = .returned (errV 4) ∧ w = w' := by
  have HP := Lib.hid (mem_Pages h)
  have hn2 : m.n ≤ 16384 := by obtain ⟨_, _, _, _, h, _⟩ := h; exact h.n2
  clear h
  generalize m.n = n at HP hn2 hs ⊢
  rcases hk with rfl | rfl | rfl
  all_goals
    go_enter Tryd.func68, Tryd.ntmps68
    go_wp2_with fail
    refine (HP.out).mono ?_
    rintro e w' ⟨rfl, rfl⟩
    go_wp2_with fail
    go_ret
    exact ⟨rfl, rfl⟩
theorem mem_check_align {g : Nat} {m : Mm} {F : Nat → Prop} {w : World} (h : RamIs w g m F) (a k : Nat) (ha : a < 4294967296) (hk : okN k) (hs : a + k ≤ 4096 * m.n) (hr : a % k ≠ 0) :
    Calls Tryd.prog 68 #[.pointer (some ⟨g, 0, none⟩), .int .u32 a, .int .i64 k] w fun e w' => e = .returned (errV 5) ∧ w = w' := by
  have HP := Lib.hid (mem_Pages h)
  have hn2 : m.n ≤ 16384 := by obtain ⟨_, _, _, _, h, _⟩ := h; exact h.n2
  clear h
  generalize m.n = n at HP hn2 hs ⊢
  rcases hk with rfl | rfl | rfl
  · omega
  all_goals
    go_enter Tryd.func68, Tryd.ntmps68
    go_wp2_with fail
    refine (HP.out).mono ?_
    rintro e w' ⟨rfl, rfl⟩
    go_wp2_with fail
    go_ret
    exact ⟨rfl, rfl⟩
theorem mem_check_ok {g : Nat} {m : Mm} {F : Nat → Prop} {w : World} (h : RamIs w g m F) (a k : Nat) (ha : a < 4294967296) (hk : okN k) (hs : a + k ≤ 4096 * m.n) (hr : a % k = 0) :
    Calls Tryd.prog 68 #[.pointer (some ⟨g, 0, none⟩), .int .u32 a, .int .i64 k] w fun e w' => e = .returned .nilIface ∧ w = w' := by
  have HP := Lib.hid (mem_Pages h)
  have hn2 : m.n ≤ 16384 := by obtain ⟨_, _, _, _, h, _⟩ := h; exact h.n2
  clear h
  generalize m.n = n at HP hn2 hs ⊢
  rcases hk with rfl | rfl | rfl
  all_goals
    go_enter Tryd.func68, Tryd.ntmps68
    go_wp2_with fail
    refine (HP.out).mono ?_
    rintro e w' ⟨rfl, rfl⟩
    go_wp2_with fail
    go_ret
    exact ⟨rfl, rfl⟩

theorem mem_run_neg {g : Nat} (a : Nat) (k : Int) (w : World) (hk : k < 0) :
    Calls Tryd.prog 59 #[.pointer (some ⟨g, 0, none⟩), .int .u32 a, .int .i64 k] w fun e w' => e = .returned (errV 1) ∧ w = w' := by
  go_enter Tryd.func59, Tryd.ntmps59
  go_wp2_with fail
  go_ret
  exact ⟨rfl, rfl⟩
theorem mem_run_range {g : Nat} {m : Mm} {F : Nat → Prop} {w : World} (h : RamIs w g m F) (a k : Nat) (ha : a < 4294967296) (hk : k < 9223372036854775808) (hs : 4096 * m.n < a + k) :
    Calls Tryd.prog 59 #[.pointer (some ⟨g, 0, none⟩), .int .u32 a, .int .i64 k] w fun e w' => e = .returned (errV 4) ∧ w = w' := by
  have HP := Lib.hid (mem_Pages h)
  have hn2 : m.n ≤ 16384 := by obtain ⟨_, _, _, _, h, _⟩ := h; exact h.n2
  clear h
  generalize m.n = n at HP hn2 hs ⊢
  by_cases h1 : n * 4096 < k
  · go_enter Tryd.func59, Tryd.ntmps59
    go_wp2_with (refine (HP.out).mono ?_; rintro e w' ⟨rfl, rfl⟩)
    go_ret
    exact ⟨rfl, rfl⟩
  · go_enter Tryd.func59, Tryd.ntmps59
    go_wp2_with (refine (HP.out).mono ?_; rintro e w' ⟨rfl, rfl⟩)
    go_ret
    exact ⟨rfl, rfl⟩
theorem mem_run_ok {g : Nat} {m : Mm} {F : Nat → Prop} {w : World} (h : RamIs w g m F) (a k : Nat) (hs : a + k ≤ 4096 * m.n) :
    Calls Tryd.prog 59 #[.pointer (some ⟨g, 0, none⟩), .int .u32 a, .int .i64 k] w fun e w' => e = .returned .nilIface ∧ w = w' := by
  have HP := Lib.hid (mem_Pages h)
  have hn2 : m.n ≤ 16384 := by obtain ⟨_, _, _, _, h, _⟩ := h; exact h.n2
  clear h
  generalize m.n = n at HP hn2 hs ⊢
  have h1 : k ≤ n * 4096 := by omega
  go_enter Tryd.func59, Tryd.ntmps59
  go_wp2_with (refine (HP.out).mono ?_; rintro e w' ⟨rfl, rfl⟩)
  go_ret
  exact ⟨rfl, rfl⟩
end Go.Proofs.YtcakcfeipfjmpaaDoor
