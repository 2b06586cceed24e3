/-
(bus.Post).may, walked.
Condition: the package's table of regions reads as its text lays it.
-/
import Derived.Test.YtcmbnkmbaghkdaaDoorBus
import Derived.OwnWalk
import Derived.Deep.QuietTactic
import Derived.BigQuiet
namespace Go.Proofs.YtcmbnkmbaghkdaaDoor
open Go.RowKit

structure Pst where
  dev : Int
  at_ : Nat
  n : Int
  val : Nat
structure Pst.wf (p : Pst) : Prop where
  d1 : -9223372036854775808 ≤ p.dev
  d2 : p.dev ≤ 9223372036854775807
  ha : p.at_ < 4294967296
  n1 : -9223372036854775808 ≤ p.n
  n2 : p.n ≤ 9223372036854775807
  hv : p.val < 4294967296
def Pst.c (p : Pst) : Array Value := #[.int .i64 p.dev, .int .u32 p.at_, .int .i64 p.n, .int .u32 p.val]
def Pst.v (p : Pst) : Value := .agg p.c
theorem Pst.c_one (p : Pst) : p.c.all (·.oneCell') = true := by simp [Pst.c, Value.oneCell']
def Pst.may (p : Pst) : Prop := 1 ≤ p.dev ∧ p.dev ≤ 6 ∧ p.n = (byD p.dev.toNat : Nat) ∧ p.at_ % byD p.dev.toNat = 0 ∧ p.at_ < roomD 0 p.dev.toNat
instance (p : Pst) : Decidable p.may := by unfold Pst.may; infer_instance

theorem reg_by (d : Nat) (h1 : 1 ≤ d) (h6 : d ≤ 6) : regRow[d * 3 + 2]? = some (.int .i64 (byD d : Nat)) := by
  have : d = 1 ∨ d = 2 ∨ d = 3 ∨ d = 4 ∨ d = 5 ∨ d = 6 := by omega
  rcases this with rfl | rfl | rfl | rfl | rfl | rfl <;> rfl
theorem reg_room (d : Nat) (h1 : 1 ≤ d) (h6 : d ≤ 6) : regRow[d * 3 + 1]? = some (.int .u32 (roomD 0 d : Nat)) := by
  have : d = 1 ∨ d = 2 ∨ d = 3 ∨ d = 4 ∨ d = 5 ∨ d = 6 := by omega
  rcases this with rfl | rfl | rfl | rfl | rfl | rfl <;> rfl
theorem byD_two (d : Nat) (h1 : 1 ≤ d) (h6 : d ≤ 6) : byD d = 4 ∨ byD d = 1 := by
  have : d = 1 ∨ d = 2 ∨ d = 3 ∨ d = 4 ∨ d = 5 ∨ d = 6 := by omega
  rcases this with rfl | rfl | rfl | rfl | rfl | rfl <;> first | exact .inl rfl | exact .inr rfl

set_option maxRecDepth 100000 in
set_option maxHeartbeats 1000000 in
theorem post_out (dev : Int) (a : Nat) (n : Int) (v : Nat) (w : World) (h : dev < 1 ∨ 6 < dev) :
    Calls Tryd.prog 32 #[.agg #[.int .i64 dev, .int .u32 a, .int .i64 n, .int .u32 v]] w fun e w' => e = .returned (.bool false) ∧ Below w.heap.size w w' := by
  by_cases h1 : dev < 1
  · have h1d : decide (dev < 1) = true := by simp; omega
    clear h
    go_enter Tryd.func32, Tryd.ntmps32
    go_wp2_with fail
    go_quiet (fail)
    go_wp2_with fail
    go_ret
    exact ⟨rfl, below_drewN ((Below.refl _ _).alloc (Nat.le_refl _) _) _⟩
  · have h1d : decide (dev < 1) = false := by simp; omega
    have h6 : 6 < dev := by omega
    have h6d : decide (6 < dev) = true := by simp; omega
    clear h
    go_enter Tryd.func32, Tryd.ntmps32
    go_wp2_with fail
    go_quiet (fail)
    go_wp2_with fail
    go_ret
    exact ⟨rfl, below_drewN ((Below.refl _ _).alloc (Nat.le_refl _) _) _⟩

set_option maxRecDepth 100000 in
set_option maxHeartbeats 1000000 in
theorem post_by (d b : Nat) (a : Nat) (n : Int) (v : Nat) (w : World) (h1 : 1 ≤ d) (h6 : d ≤ 6) (hr : ∀ W, Below w.heap.size w W → W.cell? ⟨0, d * 3 + 2, none⟩ = some (.int .i64 (b : Nat))) (hn : n ≠ b) :
    Calls Tryd.prog 32 #[.agg #[.int .i64 (d : Nat), .int .u32 a, .int .i64 n, .int .u32 v]] w fun e w' => e = .returned (.bool false) ∧ Below w.heap.size w w' := by
  have c0 := hr _ ((Below.refl _ _).alloc (Nat.le_refl _) (.cells #[.int .i64 (d : Nat), .int .u32 a, .int .i64 n, .int .u32 v] 37))
  have hi1 : ¬ (d : Int) < 1 := by omega
  have hi2 : ¬ (6 : Int) < (d : Int) := by omega
  have hi1d : decide ((d : Int) < 1) = false := by simp; omega
  have hi2d : decide ((6 : Int) < (d : Int)) = false := by simp; omega
  have hn0 : (0 : Int) ≤ (d : Int) := by omega
  have hn8 : (d : Int) < 8 := by omega
  have hne : (n != (b : Int)) = true := by simpa using hn
  clear hr hn
  go_enter Tryd.func32, Tryd.ntmps32
  go_wp2_with fail
  go_quiet (fail)
  go_wp2_with fail
  go_ret
  exact ⟨rfl, below_drewN ((Below.refl _ _).alloc (Nat.le_refl _) _) _⟩
set_option maxRecDepth 100000 in
set_option maxHeartbeats 1000000 in
theorem post_odd (d r : Nat) (a : Nat) (v : Nat) (w : World) (h1 : 1 ≤ d) (h6 : d ≤ 6) (hr : ∀ W, Below w.heap.size w W → W.cell? ⟨0, d * 3 + 2, none⟩ = some (.int .i64 4) ∧ W.cell? ⟨0, d * 3 + 1, none⟩ = some (.int .u32 (r : Nat))) (hm : (((a : Int) % 4) == 0) = false) :
    Calls Tryd.prog 32 #[.agg #[.int .i64 (d : Nat), .int .u32 a, .int .i64 4, .int .u32 v]] w fun e w' => e = .returned (.bool false) ∧ Below w.heap.size w w' := by
  obtain ⟨c0, c1⟩ := hr _ ((Below.refl _ _).alloc (Nat.le_refl _) (.cells #[.int .i64 (d : Nat), .int .u32 a, .int .i64 4, .int .u32 v] 37))
  have hi1 : ¬ (d : Int) < 1 := by omega
  have hi2 : ¬ (6 : Int) < (d : Int) := by omega
  have hi1d : decide ((d : Int) < 1) = false := by simp; omega
  have hi2d : decide ((6 : Int) < (d : Int)) = false := by simp; omega
  have hn0 : (0 : Int) ≤ (d : Int) := by omega
  have hn8 : (d : Int) < 8 := by omega
  clear hr
  go_enter Tryd.func32, Tryd.ntmps32
  go_wp2_with fail
  go_quiet (fail)
  go_wp2_with fail
  go_quiet (fail)
  go_wp2_with fail
  go_ret
  exact ⟨by first | rfl | trivial, below_drewN (below_drewN ((Below.refl _ _).alloc (Nat.le_refl _) _) _) _⟩
set_option maxRecDepth 100000 in
set_option maxHeartbeats 1000000 in
theorem post_four (d r : Nat) (a : Nat) (v : Nat) (w : World) (h1 : 1 ≤ d) (h6 : d ≤ 6) (hr : ∀ W, Below w.heap.size w W → W.cell? ⟨0, d * 3 + 2, none⟩ = some (.int .i64 4) ∧ W.cell? ⟨0, d * 3 + 1, none⟩ = some (.int .u32 (r : Nat))) (hm : (((a : Int) % 4) == 0) = true) :
    Calls Tryd.prog 32 #[.agg #[.int .i64 (d : Nat), .int .u32 a, .int .i64 4, .int .u32 v]] w fun e w' => e = .returned (.bool (decide (a < r))) ∧ Below w.heap.size w w' := by
  obtain ⟨c0, c1⟩ := hr _ ((Below.refl _ _).alloc (Nat.le_refl _) (.cells #[.int .i64 (d : Nat), .int .u32 a, .int .i64 4, .int .u32 v] 37))
  have hi1 : ¬ (d : Int) < 1 := by omega
  have hi2 : ¬ (6 : Int) < (d : Int) := by omega
  have hi1d : decide ((d : Int) < 1) = false := by simp; omega
  have hi2d : decide ((6 : Int) < (d : Int)) = false := by simp; omega
  have hn0 : (0 : Int) ≤ (d : Int) := by omega
  have hn8 : (d : Int) < 8 := by omega
  clear hr
  go_enter Tryd.func32, Tryd.ntmps32
  go_wp2_with fail
  go_quiet (fail)
  go_wp2_with fail
  go_quiet (fail)
  go_wp2_with fail
  go_ret
  exact ⟨by first | rfl | simp, below_drewN (below_drewN ((Below.refl _ _).alloc (Nat.le_refl _) _) _) _⟩
set_option maxRecDepth 100000 in
set_option maxHeartbeats 1000000 in
theorem post_one (d r : Nat) (a : Nat) (v : Nat) (w : World) (h1 : 1 ≤ d) (h6 : d ≤ 6) (hr : ∀ W, Below w.heap.size w W → W.cell? ⟨0, d * 3 + 2, none⟩ = some (.int .i64 1) ∧ W.cell? ⟨0, d * 3 + 1, none⟩ = some (.int .u32 (r : Nat))) :
    Calls Tryd.prog 32 #[.agg #[.int .i64 (d : Nat), .int .u32 a, .int .i64 1, .int .u32 v]] w fun e w' => e = .returned (.bool (decide (a < r))) ∧ Below w.heap.size w w' := by
  obtain ⟨c0, c1⟩ := hr _ ((Below.refl _ _).alloc (Nat.le_refl _) (.cells #[.int .i64 (d : Nat), .int .u32 a, .int .i64 1, .int .u32 v] 37))
  have hi1 : ¬ (d : Int) < 1 := by omega
  have hi2 : ¬ (6 : Int) < (d : Int) := by omega
  have hi1d : decide ((d : Int) < 1) = false := by simp; omega
  have hi2d : decide ((6 : Int) < (d : Int)) = false := by simp; omega
  have hn0 : (0 : Int) ≤ (d : Int) := by omega
  have hn8 : (d : Int) < 8 := by omega
  clear hr
  go_enter Tryd.func32, Tryd.ntmps32
  go_wp2_with fail
  go_quiet (fail)
  go_wp2_with fail
  go_quiet (fail)
  go_wp2_with fail
  go_ret
  exact ⟨by first | rfl | simp, below_drewN (below_drewN ((Below.refl _ _).alloc (Nat.le_refl _) _) _) _⟩
theorem post_may (p : Pst) (w : World) (hr : RegAt w) :
    Calls Tryd.prog 32 #[p.v] w fun e w' => e = .returned (.bool (decide p.may)) ∧ Below w.heap.size w w' := by
  obtain ⟨dev, a, n, v⟩ := p
  by_cases h : dev < 1 ∨ 6 < dev
  · rw [decide_eq_false (fun hm => by have h1 := hm.1; have h2 := hm.2.1; simp only at h1 h2; omega)]
    exact post_out dev a n v w h
  · obtain ⟨d, rfl⟩ : ∃ d : Nat, dev = d := ⟨dev.toNat, by omega⟩
    have h1 : 1 ≤ d := by omega
    have h6 : d ≤ 6 := by omega
    have hc : ∀ W, Below w.heap.size w W → W.cell? ⟨0, d * 3 + 2, none⟩ = some (.int .i64 (byD d : Nat)) ∧ W.cell? ⟨0, d * 3 + 1, none⟩ = some (.int .u32 (roomD 0 d : Nat)) := fun W hW =>
      ⟨((hr.below hW).2 _ (by omega)).trans (reg_by d h1 h6), ((hr.below hW).2 _ (by omega)).trans (reg_room d h1 h6)⟩
    by_cases hn : n = (byD d : Nat)
    · subst hn
      have e : (⟨(d : Int), a, (byD d : Nat), v⟩ : Pst).may ↔ a % byD d = 0 ∧ a < roomD 0 d := by
        unfold Pst.may
        simp only [Int.toNat_natCast]
        constructor
        · rintro ⟨_, _, _, h4, h5⟩; exact ⟨h4, h5⟩
        · rintro ⟨h4, h5⟩; exact ⟨by omega, by omega, trivial, h4, h5⟩
      rw [show decide ((⟨(d : Int), a, (byD d : Nat), v⟩ : Pst).may) = decide (a % byD d = 0 ∧ a < roomD 0 d) from decide_eq_decide.2 e]
      show Calls Tryd.prog _ #[.agg #[.int .i64 (d : Nat), .int .u32 a, .int .i64 (byD d : Nat), .int .u32 v]] w _
      generalize roomD 0 d = r at hc
      rcases byD_two d h1 h6 with hb | hb
      · rw [hb] at hc ⊢
        by_cases hm : a % 4 = 0
        · rw [show decide (a % 4 = 0 ∧ a < r) = decide (a < r) from by simp [hm]]
          exact post_four d r a v w h1 h6 hc (by simp; omega)
        · rw [show decide (a % 4 = 0 ∧ a < r) = false from by simp [hm]]
          exact post_odd d r a v w h1 h6 hc (by simp; omega)
      · rw [hb] at hc ⊢
        rw [show decide (a % 1 = 0 ∧ a < r) = decide (a < r) from by simp [Nat.mod_one]]
        exact post_one d r a v w h1 h6 hc
    · rw [decide_eq_false (fun hm => hn (by have := hm.2.2.1; simpa using this))]
      exact post_by d (byD d) a n v w h1 h6 (fun W hW => (hc W hW).1) hn
end Go.Proofs.YtcmbnkmbaghkdaaDoor
