/-
bus.at, bus.Base, walked: where each device lies.
Condition: the package's table of regions reads as its text lays it.
-/
import Derived.Test.YtcakcfeipfjmpaaDoorProg
import Derived.Test.YtcakcfeipfjmpaaDoorWords
import Derived.Test.YtcakcfeipfjmpaaDoorErrV
import Derived.WalkKit
import Derived.Lib.Hide
namespace Go.Proofs.YtcakcfeipfjmpaaDoor
open Go.RowKit

def fromD : Nat → Nat
  | 1 => 33554432 | 2 => 201326592 | 3 => 268435456 | 4 => 268500992 | 5 => 268566528 | 6 => 268632064 | 7 => 2147483648 | _ => 0
def roomD (size : Nat) : Nat → Nat
  | 1 => 65536 | 2 => 4194304 | 3 => 8 | 4 => 256 | 5 => 512 | 6 => 512 | 7 => min size 2147483648 | _ => 0
def byD : Nat → Nat
  | 1 => 4 | 2 => 4 | 3 => 1 | 4 => 4 | 5 => 4 | 6 => 4 | _ => 0
/-- The table's cells. -/
def regRow : Array Value := #[.int .u32 0, .int .u32 0, .int .i64 0, .int .u32 33554432, .int .u32 65536, .int .i64 4, .int .u32 201326592, .int .u32 4194304, .int .i64 4, .int .u32 268435456, .int .u32 8, .int .i64 1, .int .u32 268500992, .int .u32 256, .int .i64 4,
  .int .u32 268566528, .int .u32 512, .int .i64 4, .int .u32 268632064, .int .u32 512, .int .i64 4, .int .u32 2147483648, .int .u32 0, .int .i64 0]
def RegAt (w : World) : Prop := 1 < w.heap.size ∧ ∀ i, i < 24 → w.cell? ⟨1, i, none⟩ = regRow[i]?
theorem RegAt.below {w w' : World} (h : RegAt w) (hb : Below w.heap.size w w') : RegAt w' := ⟨Nat.lt_of_lt_of_le h.1 hb.size, fun i hi => (hb.cell (p := ⟨1, i, none⟩) h.1).trans (h.2 i hi)⟩
theorem RegAt.drew {w : World} (h : RegAt w) : RegAt w.drew := h
theorem RegAt.drewN {w : World} (h : RegAt w) (n : Nat) : RegAt (w.drewN n) := h
def regV (size d : Nat) : Value := .agg #[.int .u32 (fromD d : Nat), .int .u32 (roomD size d : Nat), .int .i64 (byD d : Nat)]
theorem fromD_out (d : Int) (h : d ≤ 0 ∨ 7 < d) : fromD d.toNat = 0 := by
  unfold fromD
  split <;> omega
theorem roomD_out (size : Nat) (d : Int) (h : d ≤ 0 ∨ 7 < d) : roomD size d.toNat = 0 := by
  unfold roomD
  split <;> omega
theorem byD_out (d : Int) (h : d ≤ 0 ∨ 7 < d) : byD d.toNat = 0 := by
  unfold byD
  split <;> omega

set_option maxRecDepth 100000 in
set_option maxHeartbeats 1000000 in
theorem bus_at (dev : Int) (size : Nat) (w : World) (hs : size < 4294967296) (hr : RegAt w) :
    Calls Tryd.prog 110 #[.int .i64 dev, .int .u32 size] w fun e w' => e = .returned (regV size dev.toNat) ∧ Below w.heap.size w w' := by
  have HR := Lib.hid hr
  have HA := Lib.hid (show RegAt (w.alloc (.cells #[.int .u32 0, .int .u32 0, .int .i64 0] 208)) from hr.below ((Below.refl _ _).alloc (Nat.le_refl _) _))
  clear hr
  have hcase : (dev ≤ 0 ∨ 7 < dev) ∨ dev = 1 ∨ dev = 2 ∨ dev = 3 ∨ dev = 4 ∨ dev = 5 ∨ dev = 6 ∨ dev = 7 := by omega
  rcases hcase with h | rfl | rfl | rfl | rfl | rfl | rfl | rfl
  · unfold regV
    rw [fromD_out dev h, roomD_out size dev h, byD_out dev h]
    by_cases h0 : dev ≤ 0
    · go_enter Tryd.func110, Tryd.ntmps110
      go_wp2_with fail
      exact bodyPost_ret (v := .agg #[.int .u32 0, .int .u32 0, .int .i64 0]) (by simp [results, Tryd.results110, go_sem]) rfl ⟨rfl, (Below.refl _ _).alloc (Nat.le_refl _) _⟩
    · have h7 : 7 < dev := by omega
      go_enter Tryd.func110, Tryd.ntmps110
      go_wp2_with fail
      exact bodyPost_ret (v := .agg #[.int .u32 0, .int .u32 0, .int .i64 0]) (by simp [results, Tryd.results110, go_sem]) rfl ⟨rfl, (Below.refl _ _).alloc (Nat.le_refl _) _⟩
  · have c0 := HA.out.2 3 (by omega)
    have c1 := HA.out.2 4 (by omega)
    have c2 := HA.out.2 5 (by omega)
    simp only [regRow] at c0 c1 c2
    go_enter Tryd.func110, Tryd.ntmps110
    go_wp2_with fail
    exact bodyPost_ret (v := regV size 1) (by simp [results, Tryd.results110, go_sem, regV, fromD, roomD, byD]) rfl ⟨rfl, ((Below.refl _ _).alloc (Nat.le_refl _) _).alloc (by simp) _⟩
  · have c0 := HA.out.2 6 (by omega)
    have c1 := HA.out.2 7 (by omega)
    have c2 := HA.out.2 8 (by omega)
    simp only [regRow] at c0 c1 c2
    go_enter Tryd.func110, Tryd.ntmps110
    go_wp2_with fail
    exact bodyPost_ret (v := regV size 2) (by simp [results, Tryd.results110, go_sem, regV, fromD, roomD, byD]) rfl ⟨rfl, ((Below.refl _ _).alloc (Nat.le_refl _) _).alloc (by simp) _⟩
  · have c0 := HA.out.2 9 (by omega)
    have c1 := HA.out.2 10 (by omega)
    have c2 := HA.out.2 11 (by omega)
    simp only [regRow] at c0 c1 c2
    go_enter Tryd.func110, Tryd.ntmps110
    go_wp2_with fail
    exact bodyPost_ret (v := regV size 3) (by simp [results, Tryd.results110, go_sem, regV, fromD, roomD, byD]) rfl ⟨rfl, ((Below.refl _ _).alloc (Nat.le_refl _) _).alloc (by simp) _⟩
  · have c0 := HA.out.2 12 (by omega)
    have c1 := HA.out.2 13 (by omega)
    have c2 := HA.out.2 14 (by omega)
    simp only [regRow] at c0 c1 c2
    go_enter Tryd.func110, Tryd.ntmps110
    go_wp2_with fail
    exact bodyPost_ret (v := regV size 4) (by simp [results, Tryd.results110, go_sem, regV, fromD, roomD, byD]) rfl ⟨rfl, ((Below.refl _ _).alloc (Nat.le_refl _) _).alloc (by simp) _⟩
  · have c0 := HA.out.2 15 (by omega)
    have c1 := HA.out.2 16 (by omega)
    have c2 := HA.out.2 17 (by omega)
    simp only [regRow] at c0 c1 c2
    go_enter Tryd.func110, Tryd.ntmps110
    go_wp2_with fail
    exact bodyPost_ret (v := regV size 5) (by simp [results, Tryd.results110, go_sem, regV, fromD, roomD, byD]) rfl ⟨rfl, ((Below.refl _ _).alloc (Nat.le_refl _) _).alloc (by simp) _⟩
  · have c0 := HA.out.2 18 (by omega)
    have c1 := HA.out.2 19 (by omega)
    have c2 := HA.out.2 20 (by omega)
    simp only [regRow] at c0 c1 c2
    go_enter Tryd.func110, Tryd.ntmps110
    go_wp2_with fail
    exact bodyPost_ret (v := regV size 6) (by simp [results, Tryd.results110, go_sem, regV, fromD, roomD, byD]) rfl ⟨rfl, ((Below.refl _ _).alloc (Nat.le_refl _) _).alloc (by simp) _⟩
  · have c0 := HA.out.2 21 (by omega)
    have c1 := HA.out.2 22 (by omega)
    have c2 := HA.out.2 23 (by omega)
    simp only [regRow] at c0 c1 c2
    go_enter Tryd.func110, Tryd.ntmps110
    go_wp2_with fail
    all_goals exact bodyPost_ret (v := regV size 7) (by simp [results, Tryd.results110, go_sem, regV, fromD, roomD, byD]; omega) rfl ⟨rfl, ((Below.refl _ _).alloc (Nat.le_refl _) _).alloc (by simp) _⟩
theorem roomD_lt (size d : Nat) (hs : size < 4294967296) : roomD size d < 4294967296 := by
  unfold roomD
  split <;> omega
theorem fromD_lt (d : Nat) : fromD d < 4294967296 := by
  unfold fromD
  split <;> omega
set_option maxHeartbeats 400000 in
theorem bus_Base (dev : Int) (size : Nat) (w : World) (hs : size < 4294967296) (hr : RegAt w) :
    Calls Tryd.prog 103 #[.int .i64 dev, .int .u32 size] w fun e w' => e = .returned (.tuple #[.int .u32 (fromD dev.toNat : Nat), .int .u32 (roomD size dev.toNat : Nat)]) ∧ Below w.heap.size w w' := by
  have H := Lib.hid (bus_at dev size w hs hr)
  clear hr
  obtain ⟨d, hd⟩ : ∃ d, d = dev.toNat := ⟨_, rfl⟩
  rw [← hd] at H ⊢
  unfold regV at H
  obtain ⟨a, ha⟩ : ∃ a, a = fromD d := ⟨_, rfl⟩
  obtain ⟨b, hb⟩ : ∃ b, b = roomD size d := ⟨_, rfl⟩
  obtain ⟨c, hc⟩ : ∃ c, c = byD d := ⟨_, rfl⟩
  rw [← ha, ← hb] at H ⊢
  rw [← hc] at H
  clear hd ha hb hc
  go_enter Tryd.func103, Tryd.ntmps103
  go_wp2_with fail
  refine H.out.mono ?_
  rintro e w' ⟨rfl, hb⟩
  go_wp2_with fail
  go_quiet (fail)
  go_wp2_with fail
  go_ret2
  exact ⟨rfl, below_drewN (hb.alloc hb.size _) _⟩
end Go.Proofs.YtcakcfeipfjmpaaDoor
